/- append of a whole list; joined lists. -/
import Derived.Test.YtgdfdmjnadnlnaaGreatVal
import Derived.Deep.RegionHeld3
import Derived.Maps.AppendAt
import Derived.BigQuiet
import Derived.Deep.QuietTactic
import Derived.Deep.DeepCutAuto
set_option linter.unusedSimpArgs false
set_option linter.unusedVariables false
set_option maxRecDepth 100000
set_option maxHeartbeats 25600000
namespace Go.Proofs.YtgdfdmjnadnlnaaGreat
section
open Go Go.RowKit Go.Proofs
section
variable {P:Program} {w:World} {base:Nat} {e:TypeId} {size:Nat}
theorem run_append_none (t ty:TypeId) (i:TypeInfo) (ht:P.underlying t=some (.slice e)) (hi:P.info? e=some i)
  (v:Value) (n c:Nat) (xs:List Value) (hown:w.ownsRow base e size v n xs) :
  (Builtin.append_ #[t,t] ty #[v,.slice none 0 c]).run P w=.ok v w:=by
 rcases hown.2 with ⟨rfl,rfl⟩|⟨g,cap,cur,rfl,_,_,hnc,_⟩
 ·simp[Builtin.append_,run_underlying ht,sizeOf,typeInfo,hi,Builtin.lenOf,Builtin.firstCells]
 ·simp[Builtin.append_,run_underlying ht,sizeOf,typeInfo,hi,Builtin.lenOf,Builtin.firstCells,hnc,storeCells]
end
theorem wpList_appL {P:Program} {ops:Array Oper} {rest:List Oper} {o:Oper} {a:Act} {Q:Exit→Act→World→Prop} {w:World} (hgd:o.guard=none) (s x:Operand) (t:TypeId)
  (ho:o.op=.call { callee:=.builtin .append,args:=#[s,x],argTypes:=#[t,t] })
  {base:Nat} {e:TypeId} {z:Value} {size bytes:Nat} (ht:P.underlying t=some (.slice e)) (hinfo:(P.info? e).map (fun i=>(i.zero,i.size,i.bytes))=some (some z,size,bytes)) (hzs:z.cells.size=size) (hsz:0<size) (hby:bytes≤200)
  {v:Value} {n:Nat} {xs:List Value} (hs:a.eval s=v) (hown:w.ownsRow base e size v n xs)
  {A:Option Addr} {m c lo hi:Nat} {news:List Value} (hx:a.eval x=.slice A m c) (hR:Rw w lo hi size A m news) (h1:∀ u∈news,u.oneCell'=true)
  (hn:n+m≤1049600) (hb:base≤w.heap.size)
  (h:∀ v' w',w'.ownsRow base e size v' (n+m) (xs++news)→w.grownBy w' v.ownBlock→Below base w w'→wpList P ops Q rest (a.put o.dst v') w'):wpList P ops Q (o :: rest) a w:=by
 obtain ⟨i,hi',hz,hsize,hbytes⟩:=info_parts hinfo
 have key:∀ (ad:Addr),A=some ad→(∀ j u,news[j]? = some u→w.cell? (ad.add j)=some u)→wpList P ops Q (o :: rest) a w:=by
  rintro ad rfl hnews;refine wpList_append_own w hgd s x t ho base e i z size bytes ht hi' hz hsize hbytes hzs hsz v n xs hs hown ad m c news hx hR.1 hnews h1 (by unfold maxLen;omega) (Nat.le_trans (Nat.mul_le_mul hn hby) (by omega)) hb ?_;intro v' w' ho' hg' _;exact h v' w' ho' hg' (own_row_below hown hg' hb)
 by_cases hm:m=0
 ·subst hm;have hnil:news=[]:=List.eq_nil_of_length_eq_zero (by simpa using hR.1);subst hnil
  cases A with
  | some ad=>exact key ad rfl (by simp)
  | none=>
   refine wpList_plain hgd fun K hK=>?_;have hrun:=run_append_none (P:=P) t o.type i ht hi' v n c xs hown;unfold Oper.wp;simp[execOp,ho,resolve,invoke,builtin,hs,hx,hrun,Result.andThen];exact hK _ _ (h v w (by simpa using hown) (World.grownBy.refl _ _) (Below.refl _ _))
 ·have h0:0<m * size:=Nat.mul_pos (by omega) hsz;obtain ⟨b,off,rfl,_,_,hc⟩:=hR.2 h0;exact key _ rfl fun j u hu=>by rw[show (⟨b,off,none⟩:Addr).add j=⟨b,off+j,none⟩ from by unfold Addr.add;split<;>simp_all];exact hc j u hu
theorem wp_appL {P:Program} {o:Oper} {a:Act} {K:Act→World→Prop} {Q:Exit→Act→World→Prop} {w:World} (s x:Operand) (t:TypeId)
  (ho:o.op=.call { callee:=.builtin .append,args:=#[s,x],argTypes:=#[t,t] })
  {base:Nat} {e:TypeId} {z:Value} {size bytes:Nat} (ht:P.underlying t=some (.slice e)) (hinfo:(P.info? e).map (fun i=>(i.zero,i.size,i.bytes))=some (some z,size,bytes)) (hzs:z.cells.size=size) (hsz:0<size) (hby:bytes≤200)
  {v:Value} {n:Nat} {xs:List Value} (hs:a.eval s=v) (hown:w.ownsRow base e size v n xs)
  {A:Option Addr} {m c lo hi:Nat} {news:List Value} (hx:a.eval x=.slice A m c) (hR:Rw w lo hi size A m news) (h1:∀ u∈news,u.oneCell'=true)
  (hn:n+m≤1049600) (hb:base≤w.heap.size)
  (h:∀ v' w',w'.ownsRow base e size v' (n+m) (xs++news)→w.grownBy w' v.ownBlock→Below base w w'→K (a.put o.dst v') w'):Oper.wp P o a w K Q:=by
 obtain ⟨i,hi',hz,hsize,hbytes⟩:=info_parts hinfo
 have key:∀ (ad:Addr),A=some ad→(∀ j u,news[j]? = some u→w.cell? (ad.add j)=some u)→Oper.wp P o a w K Q:=by
  rintro ad rfl hnews;obtain ⟨v',w',hr,h2,h3,h4,h5⟩:=run_append_own_at (P:=P) w base t o.type e i z size bytes ht hi' hz hsize hbytes hzs hsz v n xs hown ad m c news hR.1 hnews h1 (by unfold maxLen;omega) (Nat.le_trans (Nat.mul_le_mul hn hby) (by omega)) hb;unfold Oper.wp execOp;simp only[ho,resolve,invoke,builtin,Sem.run_bind,Sem.run_pure,Result.andThen_ok,List.map_toArray,List.map_cons,List.map_nil,hs,hx,hr];exact h v' w' h2 h3 (own_row_below hown h3 hb)
 by_cases hm:m=0
 ·subst hm;have hnil:news=[]:=List.eq_nil_of_length_eq_zero (by simpa using hR.1);subst hnil
  cases A with
  | some ad=>exact key ad rfl (by simp)
  | none=>
   have hrun:=run_append_none (P:=P) t o.type i ht hi' v n c xs hown;unfold Oper.wp execOp;simp only[ho,resolve,invoke,builtin,Sem.run_bind,Sem.run_pure,Result.andThen_ok,List.map_toArray,List.map_cons,List.map_nil,hs,hx,hrun];exact h v w (by simpa using hown) (World.grownBy.refl _ _) (Below.refl _ _)
 ·have h0:0<m * size:=Nat.mul_pos (by omega) hsz;obtain ⟨b,off,rfl,_,_,hc⟩:=hR.2 h0;exact key _ rfl fun j u hu=>by rw[show (⟨b,off,none⟩:Addr).add j=⟨b,off+j,none⟩ from by unfold Addr.add;split<;>simp_all];exact hc j u hu
theorem encF_one (fs:List Fct):∀ u∈encF fs,u.oneCell'=true:=by
 intro u hu;simp only[encF,List.mem_flatMap] at hu;obtain ⟨f,_,hf⟩:=hu;simp at hf;rcases hf with rfl|rfl|rfl<;>simp[Value.oneCell']
theorem encA_one (fs:List Atm):∀ u∈encA fs,u.oneCell'=true:=by
 intro u hu;simp only[encA,List.mem_flatMap] at hu;obtain ⟨f,_,hf⟩:=hu;simp at hf;rcases hf with rfl|rfl|rfl<;>simp[Value.oneCell']
theorem encI_one (fs:List Int):∀ u∈encI fs,u.oneCell'=true:=by
 intro u hu;simp only[encI,List.mem_map] at hu;obtain ⟨f,_,rfl⟩:=hu;simp[Value.oneCell']
section
variable {ops:Array Oper} {rest:List Oper} {o:Oper} {a:Act} {Q:Exit→Act→World→Prop} {w:World} {base lo hi c:Nat} {v:Value} {A:Option Addr}
theorem appFL (hgd:o.guard=none) (s x:Operand) (ho:o.op=.call { callee:=.builtin .append,args:=#[s,x],argTypes:=#[33,33] })
  {xs ys:List Fct} (hs:a.eval s=v) (hown:FactsO w base v xs) (hx:a.eval x=.slice A ys.length c) (hR:FactsV w lo hi A ys) (hn:xs.length+ys.length≤1049600) (hb:base≤w.heap.size)
  (h:∀ A' c' w',FactsO w' base (.slice A' (xs++ys).length c') (xs++ys)→w.grownBy w' v.ownBlock→Below base w w'→wpList Tryz.prog ops Q rest (a.put o.dst (.slice A' (xs++ys).length c')) w'):wpList Tryz.prog ops Q (o :: rest) a w:=by
 refine wpList_appL hgd s x 33 ho Tryz.underlying33 infoF rfl (by decide) (by decide) hs hown.1 hx hR.raw (encF_one _) hn hb ?_;intro v' w' h1 h2 h3;have hO:FactsO w' base v' (xs++ys):=⟨by rw[List.length_append,show encF (xs++ys)=encF xs++encF ys from List.flatMap_append];exact h1,by simp[Lim];omega⟩;obtain ⟨A',c',rfl,-⟩:=hO.reads;exact h A' c' w' hO h2 h3
theorem appAL (hgd:o.guard=none) (s x:Operand) (ho:o.op=.call { callee:=.builtin .append,args:=#[s,x],argTypes:=#[34,34] })
  {xs ys:List Atm} (hs:a.eval s=v) (hown:AtomsO w base v xs) (hx:a.eval x=.slice A ys.length c) (hR:AtomsV w lo hi A ys) (hn:xs.length+ys.length≤1049600) (hb:base≤w.heap.size)
  (h:∀ A' c' w',AtomsO w' base (.slice A' (xs++ys).length c') (xs++ys)→w.grownBy w' v.ownBlock→Below base w w'→wpList Tryz.prog ops Q rest (a.put o.dst (.slice A' (xs++ys).length c')) w'):wpList Tryz.prog ops Q (o :: rest) a w:=by
 refine wpList_appL hgd s x 34 ho Tryz.underlying34 infoA rfl (by decide) (by decide) hs hown.1 hx hR.raw (encA_one _) hn hb ?_;intro v' w' h1 h2 h3;have hO:AtomsO w' base v' (xs++ys):=⟨by rw[List.length_append,show encA (xs++ys)=encA xs++encA ys from List.flatMap_append];exact h1,by simp[Lim];omega⟩;obtain ⟨A',c',rfl,-⟩:=hO.reads;exact h A' c' w' hO h2 h3
theorem appIL (hgd:o.guard=none) (s x:Operand) (ho:o.op=.call { callee:=.builtin .append,args:=#[s,x],argTypes:=#[27,27] })
  {xs ys:List Int} (hs:a.eval s=v) (hown:IntsO w base v xs) (hx:a.eval x=.slice A ys.length c) (hR:IntsV w lo hi A ys) (hn:xs.length+ys.length≤1049600) (hb:base≤w.heap.size)
  (h:∀ A' c' w',IntsO w' base (.slice A' (xs++ys).length c') (xs++ys)→w.grownBy w' v.ownBlock→Below base w w'→wpList Tryz.prog ops Q rest (a.put o.dst (.slice A' (xs++ys).length c')) w'):wpList Tryz.prog ops Q (o :: rest) a w:=by
 refine wpList_appL hgd s x 27 ho Tryz.underlying27 infoI rfl (by decide) (by decide) hs hown.1 hx hR.raw (encI_one _) hn hb ?_;intro v' w' h1 h2 h3;have hO:IntsO w' base v' (xs++ys):=⟨by rw[List.length_append,show encI (xs++ys)=encI xs++encI ys from List.map_append];exact h1,by simp[Lim];omega⟩;obtain ⟨A',c',rfl,-⟩:=hO.reads;exact h A' c' w' hO h2 h3
end
section
variable {ops:Array Oper} {o:Oper} {a:Act} {K:Act→World→Prop} {Q:Exit→Act→World→Prop} {E:Prop} {w:World} {base lo hi c:Nat} {v:Value} {A:Option Addr}
theorem stepFL (hgd:o.guard=none) (s x:Operand) (ho:o.op=.call { callee:=.builtin .append,args:=#[s,x],argTypes:=#[33,33] })
  {xs ys:List Fct} (hs:a.eval s=v) (hown:FactsO w base v xs) (hx:a.eval x=.slice A ys.length c) (hR:FactsV w lo hi A ys) (hn:xs.length+ys.length≤1049600) (hb:base≤w.heap.size)
  (h:∀ A' c' w',FactsO w' base (.slice A' (xs++ys).length c') (xs++ys)→w.grownBy w' v.ownBlock→Below base w w'→K (a.put o.dst (.slice A' (xs++ys).length c')) w'):if Region.wanted o (yielded ops a.tmps)=true then Oper.wp Tryz.prog o a w K Q else E:=by
 have hw:Region.wanted o (yielded ops a.tmps)=true:=by simp[Region.wanted,hgd]
 rw[if_pos hw];refine wp_appL s x 33 ho Tryz.underlying33 infoF rfl (by decide) (by decide) hs hown.1 hx hR.raw (encF_one _) hn hb ?_;intro v' w' h1 h2 h3;have hO:FactsO w' base v' (xs++ys):=⟨by rw[List.length_append,show encF (xs++ys)=encF xs++encF ys from List.flatMap_append];exact h1,by simp[Lim];omega⟩;obtain ⟨A',c',rfl,-⟩:=hO.reads;exact h A' c' w' hO h2 h3
theorem stepAL (hgd:o.guard=none) (s x:Operand) (ho:o.op=.call { callee:=.builtin .append,args:=#[s,x],argTypes:=#[34,34] })
  {xs ys:List Atm} (hs:a.eval s=v) (hown:AtomsO w base v xs) (hx:a.eval x=.slice A ys.length c) (hR:AtomsV w lo hi A ys) (hn:xs.length+ys.length≤1049600) (hb:base≤w.heap.size)
  (h:∀ A' c' w',AtomsO w' base (.slice A' (xs++ys).length c') (xs++ys)→w.grownBy w' v.ownBlock→Below base w w'→K (a.put o.dst (.slice A' (xs++ys).length c')) w'):if Region.wanted o (yielded ops a.tmps)=true then Oper.wp Tryz.prog o a w K Q else E:=by
 have hw:Region.wanted o (yielded ops a.tmps)=true:=by simp[Region.wanted,hgd]
 rw[if_pos hw];refine wp_appL s x 34 ho Tryz.underlying34 infoA rfl (by decide) (by decide) hs hown.1 hx hR.raw (encA_one _) hn hb ?_;intro v' w' h1 h2 h3;have hO:AtomsO w' base v' (xs++ys):=⟨by rw[List.length_append,show encA (xs++ys)=encA xs++encA ys from List.flatMap_append];exact h1,by simp[Lim];omega⟩;obtain ⟨A',c',rfl,-⟩:=hO.reads;exact h A' c' w' hO h2 h3
end
theorem mkF0 (n:Nat) (h:Lim n) (w:World):(Instr.makeSlice 33 (.int .i64 0) (.int .i64 (n:Int))).run Tryz.prog w=.ok (.slice (some ⟨w.heap.size,0,none⟩) 0 n) (w.alloc (.cells (madeCells #[.bool false,.int .i64 0,.int .i64 0] (n * 3)) tF)):=by
 obtain ⟨i,hi,hz,hs,hb⟩:=info_parts infoF;have:=run_make_rowN (P:=Tryz.prog) 33 tF i _ Tryz.underlying33 hi hz .i64 .i64 0 n (Nat.zero_le _) (by rw[hb];unfold Lim at h;omega) (by unfold Lim at h;omega) w
 rwa [hs] at this
theorem mkA0 (n:Nat) (h:Lim n) (w:World):(Instr.makeSlice 34 (.int .i64 0) (.int .i64 (n:Int))).run Tryz.prog w=.ok (.slice (some ⟨w.heap.size,0,none⟩) 0 n) (w.alloc (.cells (madeCells #[.int .i64 0,.int .i64 0,.int .i64 0] (n * 3)) tA)):=by
 obtain ⟨i,hi,hz,hs,hb⟩:=info_parts infoA;have:=run_make_rowN (P:=Tryz.prog) 34 tA i _ Tryz.underlying34 hi hz .i64 .i64 0 n (Nat.zero_le _) (by rw[hb];unfold Lim at h;omega) (by unfold Lim at h;omega) w
 rwa [hs] at this
theorem FactsO.made (w:World) (n:Nat) (h:n≤1049600):FactsO (w.alloc (.cells (madeCells #[.bool false,.int .i64 0,.int .i64 0] (n * 3)) tF)) w.heap.size (.slice (some ⟨w.heap.size,0,none⟩) 0 n) []:=
 ⟨World.ownsRow_made w _ n (Nat.le_refl _) (by unfold maxLen;omega) (by rw[size_madeCells]),by simp[Lim]⟩
theorem AtomsO.made (w:World) (n:Nat) (h:n≤1049600):AtomsO (w.alloc (.cells (madeCells #[.int .i64 0,.int .i64 0,.int .i64 0] (n * 3)) tA)) w.heap.size (.slice (some ⟨w.heap.size,0,none⟩) 0 n) []:=
 ⟨World.ownsRow_made w _ n (Nat.le_refl _) (by unfold maxLen;omega) (by rw[size_madeCells]),by simp[Lim]⟩
theorem FactsO.empty (w:World):FactsO (w.alloc (.cells #[] tF)) w.heap.size (.slice (some ⟨w.heap.size,0,none⟩) 0 0) []:=⟨own_empty w _ _,by simp[Lim]⟩
theorem AtomsO.empty (w:World):AtomsO (w.alloc (.cells #[] tA)) w.heap.size (.slice (some ⟨w.heap.size,0,none⟩) 0 0) []:=⟨own_empty w _ _,by simp[Lim]⟩
theorem FactsO.nil (w:World) (base:Nat):FactsO w base (.slice none 0 0) []:=⟨World.ownsRow_nil _ _ _ _,by simp[Lim]⟩
theorem AtomsO.nil (w:World) (base:Nat):AtomsO w base (.slice none 0 0) []:=⟨World.ownsRow_nil _ _ _ _,by simp[Lim]⟩
theorem c_joinF {lo hi lo' hi':Nat} (A A':Option Addr) (c c':Nat) (fs gs:List Fct) (w:World) (h:FactsV w lo hi A fs) (h':FactsV w lo' hi' A' gs) (hn:fs.length+gs.length≤1049600) :
  Calls Tryz.prog 101 #[.slice A fs.length c,.slice A' gs.length c'] w fun e w'=>∃ r,e=.returned r∧FactsO w' w.heap.size r (fs++gs)∧Below w.heap.size w w':=by
 have hmk:=mkF0 (fs.length+gs.length) hn;simp only[Int.natCast_add] at hmk;have hO0:=ax (FactsO.made w (fs.length+gs.length) hn);(go_enter Tryz.func101,Tryz.ntmps101)
 go_wp2_with (first
  | (at_builtin;refine appFL rfl _ _ rfl rfl hO0.o rfl (h.bz bel) (by simp;omega) (by simp) ?_;intro A1 d1 w1 hO1 hg1 hB1;have hB:Below w.heap.size w w1:=Below.trans bel hB1)
  | (at_builtin;refine appFL rfl _ _ rfl rfl hO1 rfl (h'.bz hB) (by simp;omega) hB.size ?_;intro A2 d2 w2 hO2 hg2 hB2))
 go_ret;exact ⟨_,rfl,by simpa using hO2,hB.trans hB2⟩
theorem c_joinA {lo hi lo' hi':Nat} (A A':Option Addr) (c c':Nat) (fs gs:List Atm) (w:World) (h:AtomsV w lo hi A fs) (h':AtomsV w lo' hi' A' gs) (hn:fs.length+gs.length≤1049600) :
  Calls Tryz.prog 102 #[.slice A fs.length c,.slice A' gs.length c'] w fun e w'=>∃ r,e=.returned r∧AtomsO w' w.heap.size r (fs++gs)∧Below w.heap.size w w':=by
 have hmk:=mkA0 (fs.length+gs.length) hn;simp only[Int.natCast_add] at hmk;have hO0:=ax (AtomsO.made w (fs.length+gs.length) hn);(go_enter Tryz.func102,Tryz.ntmps102)
 go_wp2_with (first
  | (at_builtin;refine appAL rfl _ _ rfl rfl hO0.o rfl (h.bz bel) (by simp;omega) (by simp) ?_;intro A1 d1 w1 hO1 hg1 hB1;have hB:Below w.heap.size w w1:=Below.trans bel hB1)
  | (at_builtin;refine appAL rfl _ _ rfl rfl hO1 rfl (h'.bz hB) (by simp;omega) hB.size ?_;intro A2 d2 w2 hO2 hg2 hB2))
 go_ret;exact ⟨_,rfl,by simpa using hO2,hB.trans hB2⟩
def starA (a b:Asn):Asn:=⟨a.facts++b.facts,a.atoms++b.atoms⟩
def starF (a b:Asn):Option Asn:=if a.valid&&b.valid&&(starA a b).valid then some (starA a b) else none
theorem valid_len {a:Asn} (h:a.valid=true):a.facts.length≤12∧a.atoms.length≤6:=by
 simp only[Asn.valid,factsValid,Bool.and_eq_true,decide_eq_true_eq] at h;exact ⟨h.1.1,h.2.1⟩
theorem AsnO.zero (w:World) (base:Nat):AsnO w base (.agg #[.slice none 0 0,.slice none 0 0]) ⟨[],[]⟩:=⟨_,_,rfl,FactsO.nil _ _,AtomsO.nil _ _⟩
theorem blk2 (w:World) (t1 t2:TypeId) (a b:Array Value):Blk ((w.alloc (.cells a t1)).alloc (.cells b t2)) w.heap.size t1 a∧Blk ((w.alloc (.cells a t1)).alloc (.cells b t2)) (w.heap.size+1) t2 b:=
 ⟨(Blk.new w _ _).alloc _,by have:=Blk.new (w.alloc (.cells a t1)) t2 b;simpa using this⟩
theorem blk3 (w:World) (t1 t2 t3:TypeId) (a b c:Array Value):Blk (((w.alloc (.cells a t1)).alloc (.cells b t2)).alloc (.cells c t3)) w.heap.size t1 a∧Blk (((w.alloc (.cells a t1)).alloc (.cells b t2)).alloc (.cells c t3)) (w.heap.size+1) t2 b∧Blk (((w.alloc (.cells a t1)).alloc (.cells b t2)).alloc (.cells c t3)) (w.heap.size+1+1) t3 c:=
 ⟨(blk2 w t1 t2 a b).1.alloc _,(blk2 w t1 t2 a b).2.alloc _,by have:=Blk.new ((w.alloc (.cells a t1)).alloc (.cells b t2)) t3 c;simpa using this⟩
theorem own_setT {w:World} {base:Nat} {e:TypeId} {size:Nat} {v:Value} {n:Nat} {xs:List Value} (h:w.ownsRow base e size v n xs) {g:Nat} {t:TypeId} {cs:Array Value} (hk:Blk w g t cs) (ht:t≠e) (i:Nat) (u:Value):(w.setCell ⟨g,i,none⟩ u).ownsRow base e size v n xs:=by
 obtain ⟨h1,h2⟩:=h;refine ⟨h1,?_⟩;rcases h2 with h2|⟨k,cap,cur,hv,hg,hh,r⟩
 ·exact Or.inl h2
 ·exact Or.inr ⟨k,cap,cur,hv,hg,Blk.far (g:=k) hh (fun e=>Blk.ne_ hk hh ht e.symm) u,r⟩
theorem FactsO.setT {w:World} {base:Nat} {v:Value} {xs:List Fct} (h:FactsO w base v xs) {g:Nat} {t:TypeId} {cs:Array Value} (hk:Blk w g t cs) (ht:t≠tF) (i:Nat) (u:Value):FactsO (w.setCell ⟨g,i,none⟩ u) base v xs:=⟨own_setT h.1 hk ht i u,h.2⟩
theorem AtomsO.setT {w:World} {base:Nat} {v:Value} {xs:List Atm} (h:AtomsO w base v xs) {g:Nat} {t:TypeId} {cs:Array Value} (hk:Blk w g t cs) (ht:t≠tA) (i:Nat) (u:Value):AtomsO (w.setCell ⟨g,i,none⟩ u) base v xs:=⟨own_setT h.1 hk ht i u,h.2⟩
theorem IntsO.setT {w:World} {base:Nat} {v:Value} {xs:List Int} (h:IntsO w base v xs) {g:Nat} {t:TypeId} {cs:Array Value} (hk:Blk w g t cs) (ht:t≠tI) (i:Nat) (u:Value):IntsO (w.setCell ⟨g,i,none⟩ u) base v xs:=⟨own_setT h.1 hk ht i u,h.2⟩
theorem c_impl_Star {lo hi lo' hi':Nat} (v v':Value) (a b:Asn) (w:World) (h:AsnV w lo hi v a) (h':AsnV w lo' hi' v' b) :
  Calls Tryz.prog 41 #[v,v'] w fun e w'=>∃ r,e=.returned (.tuple #[r,.bool (starF a b).isSome])∧AsnO w' w.heap.size r ((starF a b).getD ⟨[],[]⟩)∧Below w.heap.size w w':=by
 have hV:=ax h;have hV':=ax h';obtain ⟨A1,c1,A2,c2,rfl,h1,h2⟩:=h;obtain ⟨A3,c3,A4,c4,rfl,h3,h4⟩:=h';have HF:aJ (starF a b=if a.valid&&b.valid&&(starA a b).valid then some (starA a b) else none):=rfl;(go_enter Tryz.func41,Tryz.ntmps41);(go_wp2_with fail);refine (c_impl_AssertionValid _ a _ (hV.o.bz bel)).mono ?_;rintro e w1 ⟨rfl,hB1⟩;have hB:=bgo (w:=w) bel hB1;have kk:=blk3 w 36 36 36 #[.slice A1 a.facts.length c1,.slice A2 a.atoms.length c2] #[.slice A3 b.facts.length c3,.slice A4 b.atoms.length c4] #[.slice none 0 0,.slice none 0 0];have k0:=kk.1.nz hB1;have k1:=kk.2.1.nz hB1;have k2:=kk.2.2.nz hB1;clear kk hB1;have q1:=k1.cell;have q2:=k2.cell;have r2:=k2.frozen;cases ha:a.valid
 ·have E:=ax (show starF a b=none by rw[HF.o,ha];rfl);clear ha;(go_wp2_with fail);refine bodyPost_ret (v:=.tuple #[.agg #[.slice none 0 0,.slice none 0 0],.bool false]) (by simp[results,Tryz.results41,go_sem,q2]) rfl ⟨_,by rw[E.o];rfl,by rw[E.o];exact AsnO.zero _ _,bel⟩
 have HA:=ax ha;clear ha q2 r2;(go_wp2_with fail);refine (c_impl_AssertionValid _ b _ (hV'.o.bz hB)).mono ?_;rintro e w2 ⟨rfl,hB2⟩;replace hB:=bgo hB hB2;replace k0:=k0.nz hB2;replace k1:=k1.nz hB2;replace k2:=k2.nz hB2;clear q1 hB2;have q2:=k2.cell;have r2:=k2.frozen;cases hb:b.valid
 ·have E:=ax (show starF a b=none by rw[HF.o,HA.o,hb];rfl);clear hb;(go_wp2_with fail);refine bodyPost_ret (v:=.tuple #[.agg #[.slice none 0 0,.slice none 0 0],.bool false]) (by simp[results,Tryz.results41,go_sem,q2]) rfl ⟨_,by rw[E.o];rfl,by rw[E.o];exact AsnO.zero _ _,bel⟩
 have HB:=ax hb;have l1:=valid_len HA.o;have l2:=valid_len HB.o;clear hb q2 r2;(go_wp2_with fail);have lt2:=k2.lt
 go_region_held3 (fun w'=>(∀ i,w'.cell? ⟨w.heap.size,i,none⟩=#[.slice A1 a.facts.length c1,.slice A2 a.atoms.length c2][i]?)∧(∀ i,w'.cell? ⟨w.heap.size+1,i,none⟩=#[.slice A3 b.facts.length c3,.slice A4 b.atoms.length c4][i]?))
  (exact ⟨Blk.cell blks,Blk.cell blks⟩)
  (first
   | (go_at_call 101;refine (c_joinF _ _ _ _ a.facts b.facts _ (h1.bz bel) (h3.bz bel) (by omega)).mono ?_;rintro e w3 ⟨r3,rfl,o3,hB3⟩;have hBw3:=bgo (w:=w) bel hB3;have m0:=Blk.nz (g:=w.heap.size) blks hB3;have m1:=Blk.nz (g:=w.heap.size+1) blks hB3;have m2:=Blk.nz (g:=w.heap.size+1+1) blks hB3;have lt3:=m2.lt;obtain ⟨R3,d3,rfl,-⟩:=o3.reads;(try have z3:Blk w3 w2.heap.size 36 #[.slice none 0 0,.slice none 0 0]:=Blk.nz (Blk.new w2.drew _ _) hB3))
   | (go_at_call 102;refine (c_joinA _ _ _ _ a.atoms b.atoms _ (h2.bz bel) (h4.bz bel) (by omega)).mono ?_;rintro e w4 ⟨r4,rfl,o4,hB4⟩;have hBw4:=bgo (w:=w) bel hB4;have n0:=Blk.nz (g:=w.heap.size) blks hB4;have n1:=Blk.nz (g:=w.heap.size+1) blks hB4;have n2:=Blk.nz (g:=w.heap.size+1+1) blks hB4;have o3b:=(o3.bz bel).bz hB4;obtain ⟨R4,d4,rfl,-⟩:=o4.reads;(try have z4:Blk w4 w2.heap.size 36 #[.slice none 0 0,.slice none 0 0]:=z3.nz hB4);(try have z4:Blk w4 w3.heap.size 36 #[.slice none 0 0,.slice none 0 0]:=Blk.nz (Blk.new w3 _ _) hB4);(try have z4c:=z4.cell);(try have z4f:=z4.frozen)))
 all_goals
  simp only[List.length_append] at o3b o4;(go_wp2_with fail);refine (c_impl_AssertionValid (lo:=0) (hi:=w4.heap.size+1) _ (starA a b) _ ?av).mono ?_
  case av=>
   refine ⟨R3,d3,R4,d4,by simp[starA],?_,?_⟩
   ·exact (FactsO.readsI (by first|exact o3b|exact (o3b.setT z4 (by decide) _ _).setT (z4.set_ _ _) (by decide) _ _|exact o3b.bz bel)).2.mono (Nat.zero_le _) (by simp)
   ·exact (AtomsO.readsI (by first|exact o4|exact (o4.setT z4 (by decide) _ _).setT (z4.set_ _ _) (by decide) _ _|exact o4.bz bel)).2.mono (Nat.zero_le _) (by simp)
  rintro e w5 ⟨rfl,hB5⟩;have p2:Blk w5 (w.heap.size+1+1) 36 #[.slice none 0 0,.slice none 0 0]:=Blk.nz (by first|exact n2|exact (n2.far (by simp only[];omega) _).far (by simp only[];omega) _|exact n2.alloc _) hB5;have hBw5:Below w.heap.size w w5:=bgo bel hB5;have hz:w4.heap.size=w4.heap.size:=rfl;have z5:=(by first|exact Blk.nz (Blk.new w4 36 #[.slice R3 (a.facts.length+b.facts.length) d3,.slice R4 (a.atoms.length+b.atoms.length) d4]) hB5|exact Blk.nz ((z4.set_ 0 (.slice R3 (a.facts.length+b.facts.length) d3)).set_ 1 (.slice R4 (a.atoms.length+b.atoms.length) d4)) hB5);have f3:FactsO w5 w.heap.size (.slice R3 (a.facts.length+b.facts.length) d3) (a.facts++b.facts):=FactsO.lower (FactsO.bz (by first|exact o3b|exact (o3b.setT z4 (by decide) _ _).setT (z4.set_ _ _) (by decide) _ _|exact o3b.bz bel) hB5) (by first|omega|(simp;omega));have f4:AtomsO w5 w.heap.size (.slice R4 (a.atoms.length+b.atoms.length) d4) (a.atoms++b.atoms):=AtomsO.lower (AtomsO.bz (by first|exact o4|exact (o4.setT z4 (by decide) _ _).setT (z4.set_ _ _) (by decide) _ _|exact o4.bz bel) hB5) (by first|omega|(simp;omega));have q5:=z5.cell;have q2:=p2.cell;have r2:=p2.frozen;clear hB5 o3 o3b o4 hB4 hB3;cases hv:(starA a b).valid
  ·have E:=ax (show starF a b=none by rw[HF.o,HA.o,HB.o,hv];rfl);clear hv;(go_wp2_with fail);refine bodyPost_ret (v:=.tuple #[.agg #[.slice none 0 0,.slice none 0 0],.bool false]) (by simp[results,Tryz.results41,go_sem,q2]) rfl ⟨_,by rw[E.o];rfl,by rw[E.o];exact AsnO.zero _ _,bel⟩
  ·have E:=ax (show starF a b=some (starA a b) by rw[HF.o,HA.o,HB.o,hv];rfl);clear hv;(go_wp2_with fail);refine bodyPost_ret (v:=.tuple #[.agg #[.slice R3 (a.facts.length+b.facts.length) d3,.slice R4 (a.atoms.length+b.atoms.length) d4],.bool true]) (by simp[results,Tryz.results41,go_sem,q2]) rfl ⟨_,by rw[E.o];rfl,?_,bel⟩;rw[E.o];exact ⟨_,_,rfl,(f3.setT p2 (by decide) _ _).setT (p2.set_ _ _) (by decide) _ _,(f4.setT p2 (by decide) _ _).setT (p2.set_ _ _) (by decide) _ _⟩
theorem isTermB_iff {x:Int}:isTermB x=true↔0≤x∧x≤8:=by simp[isTermB]
@[irreducible] def tins (S:Nat) (t:Int):Nat:=if isTermB t then S|||1 <<< t.toNat else S
theorem tins_lt {S:Nat} (h:S<512) (t:Int):tins S t<512:=by
 unfold tins
 split
 ·rename_i ht;have ht:=isTermB_iff.1 ht;rw[Nat.one_shiftLeft]
  exact Nat.or_lt_two_pow (n:=9) h (by
   have:(2:Nat) ^ t.toNat≤2 ^ 8:=Nat.pow_le_pow_right (by omega) (by omega)
   omega)
 ·exact h
theorem tins_bit (S:Nat) (t:Int) (n:Nat):(tins S t).testBit n=(S.testBit n || decide (isTermB t=true∧t=(n:Int))):=by
 unfold tins
 split
 ·rename_i ht;have hb:=isTermB_iff.1 ht;rw[Nat.testBit_or,Nat.one_shiftLeft,Nat.testBit_two_pow]
  congr 1
  rw[decide_eq_decide];constructor
  ·intro e;exact ⟨ht,by omega⟩
  ·intro e;omega
 ·rename_i ht;simp[ht]
def tset (l:List Int):Nat:=l.foldl tins 0
theorem foldl_tins_lt (l:List Int):∀ {S:Nat},S<512→l.foldl tins S<512:=by
 induction l with
 | nil=>intro S h;exact h
 | cons x l ih=>intro S h;exact ih (tins_lt h x)
theorem tset_lt (l:List Int):tset l<512:=foldl_tins_lt l (by decide)
theorem foldl_tins_bit (l:List Int):∀ (S n:Nat),(l.foldl tins S).testBit n=(S.testBit n || decide (isTermB (n:Int)=true∧(n:Int)∈l)):=by
 induction l with
 | nil=>intro S n;simp
 | cons x l ih=>
  intro S n;rw[List.foldl_cons,ih,tins_bit,Bool.or_assoc]
  congr 1
  rw[←Bool.decide_or,decide_eq_decide];constructor
  ·rintro (⟨h,rfl⟩|⟨h,hm⟩)
   ·exact ⟨h,List.mem_cons_self⟩
   ·exact ⟨h,List.mem_cons_of_mem _ hm⟩
  ·rintro ⟨h,hm⟩;rcases List.mem_cons.1 hm with e|hm
   ·exact Or.inl ⟨e▸h,e.symm⟩
   ·exact Or.inr ⟨h,hm⟩
theorem tset_bit (l:List Int) (n:Nat):(tset l).testBit n=decide (isTermB (n:Int)=true∧(n:Int)∈l):=by
 rw[tset,foldl_tins_bit];simp
def factT (f:Fct):List Int:=[f.a,f.b]
def atomT (x:Atm):List Int:=[x.a,x.b]
def termsL (a:Asn):List Int:=a.facts.flatMap factT++a.atoms.flatMap atomT
attribute [irreducible] tset
theorem c_impl_with (S:Nat) (t:Int) (w:World) (hS:S<512):Calls Tryz.prog 125 #[.int .u16 S,.int .i64 t] w fun e w'=>e=.returned (.int .u16 (tins S t))∧w=w':=by
 cases ht:isTermB t
 ·(go_enter Tryz.func125,Tryz.ntmps125);(go_wp2_with (go_at_call 153;refine (c_impl_isTerm _ _).mono ?_;rintro e w' ⟨rfl,rfl⟩));go_ret;exact ⟨by rw[tins,ht];rfl,rfl⟩
 ·have hb:=isTermB_iff.1 ht;have HT:=ax ht;obtain ⟨m,rfl⟩:=Int.eq_ofNat_of_zero_le hb.1;(go_enter Tryz.func125,Tryz.ntmps125);(go_wp2_with (go_at_call 153;refine (c_impl_isTerm _ _).mono ?_;rintro e w' ⟨rfl,rfl⟩));go_ret;refine ⟨?_,rfl⟩;have e:=bit_or S m (by omega) (by omega);rw[tins,HT.o,if_pos rfl,Int.toNat_natCast,←e];simp
theorem c_impl_tHas (S:Nat) (t:Int) (w:World) (hS:S<512):Calls Tryz.prog 142 #[.int .u16 S,.int .i64 t] w fun e w'=>e=.returned (.bool (isTermB t&&S.testBit t.toNat))∧w=w':=by
 cases ht:isTermB t
 ·(go_enter Tryz.func142,Tryz.ntmps142);(go_wp2_with (go_at_call 153;refine (c_impl_isTerm _ _).mono ?_;rintro e w' ⟨rfl,rfl⟩));go_ret;exact ⟨rfl,rfl⟩
 ·have hb:=isTermB_iff.1 ht;have HT:=ax ht;obtain ⟨m,rfl⟩:=Int.eq_ofNat_of_zero_le hb.1;have hbit:=bit_has S m (by omega);(go_enter Tryz.func142,Tryz.ntmps142);(go_wp2_with (go_at_call 153;refine (c_impl_isTerm _ _).mono ?_;rintro e w' ⟨rfl,rfl⟩));go_ret;refine ⟨?_,rfl⟩;exact ret_bool (by simp)
theorem foldl_step {α:Type} (f:Nat→α→Nat) (S:Nat) (xs:List α) (k:Nat) (hk:k<xs.length):(xs.drop k).foldl f S=(xs.drop (k+1)).foldl f (f S xs[k]):=by
 rw[List.drop_eq_getElem_cons hk];rfl
theorem tset_terms (a:Asn):tset (termsL a)=(a.atoms.foldl (fun S x=>tins (tins S x.a) x.b) (a.facts.foldl (fun S f=>tins (tins S f.a) f.b) 0)):=by
 have h1:∀ (fs:List Fct) (S:Nat),(fs.flatMap factT).foldl tins S=fs.foldl (fun S f=>tins (tins S f.a) f.b) S:=by
  intro fs;induction fs with
  | nil=>intro S;rfl
  | cons f fs ih=>intro S;rw[List.flatMap_cons,List.foldl_append,ih];rfl
 have h2:∀ (fs:List Atm) (S:Nat),(fs.flatMap atomT).foldl tins S=fs.foldl (fun S f=>tins (tins S f.a) f.b) S:=by
  intro fs;induction fs with
  | nil=>intro S;rfl
  | cons f fs ih=>intro S;rw[List.flatMap_cons,List.foldl_append,ih];rfl
 rw[tset,termsL,List.foldl_append,h1,h2]
theorem c_impl_termsIn {lo hi:Nat} (v:Value) (a:Asn) (w:World) (h:AsnV w lo hi v a):Calls Tryz.prog 66 #[v] w fun e w'=>e=.returned (.int .u16 (tset (termsL a)))∧Below w.heap.size w w':=by
 obtain ⟨A1,c1,A2,c2,rfl,h1,h2⟩:=h;have hl1:=h1.le;have hl2:=h2.le;have HT:=ax (tset_terms a);(go_enter Tryz.func66,Tryz.ntmps66);go_wp2
 go_loopw [3,11] (fun S i wr=>∃ (k T:Nat),k≤a.facts.length∧i=.int .i64 k∧S=.int .u16 T∧T<512∧aJ (a.facts.foldl (fun S f=>tins (tins S f.a) f.b) 0=(a.facts.drop k).foldl (fun S f=>tins (tins S f.a) f.b) T)∧Blk wr w.heap.size 36 #[.slice A1 a.facts.length c1,.slice A2 a.atoms.length c2]∧Below w.heap.size w wr) (fun _ i _=>a.facts.length - (intOf i).toNat)
 case atStart=>exact ⟨0,0,Nat.zero_le _,rfl,rfl,by decide,rfl,blks,bel⟩
 case round=>
  obtain ⟨k,T,hk,rfl,rfl,hT,HA,hK,hB⟩:=hrel;by_cases hlt:k<a.facts.length
  ·obtain ⟨b,off,rfl,g0,g1,g2⟩:=(h1.bz hB).at hlt;have HD:=ax (foldl_step (fun S (f:Fct)=>tins (tins S f.a) f.b) T a.facts k hlt);have hT1:=tins_lt hT a.facts[k].a;have hT2:=tins_lt hT1 a.facts[k].b;(go_wp2_with fail);(go_quiet ((go_at_call 125;exact Calls.quiet_of_same ((c_impl_with _ _ _ (by assumption)).mono fun _ _ ⟨a,b⟩=>⟨a,b.symm⟩))));(go_wp2_with fail)
   go_round
   case rel=>exact ⟨k+1,_,by omega,by go_num,rfl,hT2,by show _=_;rw[HA.o,HD.o],(hK.alloc _).drewN _,below_drewN (bbox hB _) _⟩
   case measure=>simp[intOf];omega
  ·obtain rfl:k=a.facts.length:=by omega
   have q:=hK.cell;(go_wp2_with fail);have HA2:=ax (show a.facts.foldl (fun S f=>tins (tins S f.a) f.b) 0=T by rw[HA.o,List.drop_length];rfl)
   go_loopw [3,26] (fun S i wx=>∃ (k T':Nat),k≤a.atoms.length∧i=.int .i64 k∧S=.int .u16 T'∧T'<512∧aJ (a.atoms.foldl (fun S f=>tins (tins S f.a) f.b) T=(a.atoms.drop k).foldl (fun S f=>tins (tins S f.a) f.b) T')∧Below w.heap.size w wx) (fun _ i _=>a.atoms.length - (intOf i).toNat)
   case atStart=>exact ⟨0,T,Nat.zero_le _,rfl,rfl,hT,rfl,hB⟩
   case round=>
    clear hK q hB;obtain ⟨k,T',hk,rfl,rfl,hT',HB,hB⟩:=hrel;by_cases hlt2:k<a.atoms.length
    ·obtain ⟨b,off,rfl,g0,g1,g2⟩:=(h2.bz hB).at hlt2;have HD:=ax (foldl_step (fun S (f:Atm)=>tins (tins S f.a) f.b) T' a.atoms k hlt2);have hT1:=tins_lt hT' a.atoms[k].a;have hT2:=tins_lt hT1 a.atoms[k].b;(go_wp2_with fail);(go_quiet ((go_at_call 125;exact Calls.quiet_of_same ((c_impl_with _ _ _ (by assumption)).mono fun _ _ ⟨a,b⟩=>⟨a,b.symm⟩))));(go_wp2_with fail)
     go_round
     case rel=>exact ⟨k+1,_,by omega,by go_num,rfl,hT2,by show _=_;rw[HB.o,HD.o],below_drewN (bbox hB _) _⟩
     case measure=>simp[intOf];omega
    ·obtain rfl:k=a.atoms.length:=by omega
     (go_wp2_with fail);go_ret;refine ⟨?_,hB⟩;rw[HT.o,HA2.o,HB.o,List.drop_length];rfl
theorem c_impl_setOfTerms {lo hi:Nat} (A:Option Addr) (c:Nat) (xs:List Int) (w:World) (h:IntsV w lo hi A xs):Calls Tryz.prog 65 #[.slice A xs.length c] w fun e w'=>e=.returned (.int .u16 (tset xs))∧Below w.heap.size w w':=by
 have hl:=h.le;have HT:aJ (tset xs=xs.foldl tins 0):=by show _=_;unfold tset;rfl
 (go_enter Tryz.func65,Tryz.ntmps65);go_wp2
 go_loop [3,8] (fun S i=>∃ (k T:Nat),k≤xs.length∧i=.int .i64 k∧S=.int .u16 T∧T<512∧aJ (tset xs=(xs.drop k).foldl tins T)) (fun _ i=>xs.length - (intOf i).toNat)
 case atStart=>exact ⟨0,0,Nat.zero_le _,rfl,rfl,by decide,HT.o⟩
 case round=>
  obtain ⟨k,T,hk,rfl,rfl,hT,HA⟩:=hrel;by_cases hlt:k<xs.length
  ·obtain ⟨b,off,rfl,g0⟩:=h.at hlt;have HD:=ax (foldl_step tins T xs k hlt);have hT1:=tins_lt hT xs[k];(go_wp2_with (go_at_call 125;refine (c_impl_with _ _ _ (by assumption)).mono ?_;rintro e w' ⟨rfl,rfl⟩))
   go_round
   case rel=>exact ⟨k+1,_,by omega,by go_num,rfl,hT1,by show _=_;rw[HA.o,HD.o]⟩
   case measure=>simp[intOf];omega
  ·obtain rfl:k=xs.length:=by omega
   go_wp2;go_ret;exact ⟨by rw[HA.o,List.drop_length];rfl,Below.refl _ _⟩
def tnameL (t : Int) : Bs :=
  if t = 0 then [110, 105, 108] else if t = 1 then [97] else if t = 2 then [98] else if t = 3 then [99] else if t = 4 then [100] else
  if t = 5 then [112] else if t = 6 then [113] else if t = 7 then [114] else if t = 8 then [115] else []
theorem tnameL_len (t : Int) : (tnameL t).length ≤ 3 := by unfold tnameL; repeat' split
                                                           all_goals decide
theorem tnameL_out {t : Int} (h : isTermB t = false) : tnameL t = [] := by
  have h' : ¬ (0 ≤ t ∧ t ≤ 8) := fun e => by rw [isTermB_iff.2 e] at h; cases h
  unfold tnameL
  repeat rw [if_neg (by omega)]
def parseT (l : Bs) : Option Nat := (List.range 9).find? fun n => decide (tnameL n = l)
theorem parseT_some {l : Bs} {k : Nat} (hk : k < 9) (h : tnameL k = l) (hn : ∀ j, j < k → tnameL j ≠ l) : parseT l = some k := by
  unfold parseT;rw [List.find?_range_eq_some];exact ⟨by simpa using h, by simpa using hk, fun j hj => by simpa using hn j hj⟩
theorem parseT_none {l : Bs} (hn : ∀ j : Nat, j < 9 → tnameL j ≠ l) : parseT l = none := by
  unfold parseT;rw [List.find?_eq_none];intro j hj;simpa using hn j (by simpa using hj)
def fmtF (f : Fct) : Bs := if f.eq then tnameL f.a ++ [61] ++ tnameL f.b else tnameL f.a ++ [33, 61] ++ tnameL f.b
theorem fmtF_len (f : Fct) : (fmtF f).length ≤ 8 := by
  have h1 := tnameL_len f.a;have h2 := tnameL_len f.b;unfold fmtF; split <;> simp <;> omega
def cutAt (c : UInt8) : Bs → Option (Bs × Bs)
  | [] => none
  | x :: r => if x = c then some ([], r) else (cutAt c r).map fun p => (x :: p.1, p.2)
theorem cutAt_at {c : UInt8} : ∀ {l : Bs} {i : Nat} (h : i < l.length), l[i] = c → (∀ j (hj : j < i), l[j] ≠ c) → cutAt c l = some (l.take i, l.drop (i + 1))
  | x :: r, 0, _, h, _ => by simp only [List.getElem_cons_zero] at h; simp [cutAt, h]
  | x :: r, i + 1, hi, h, hn => by
    have hx : x ≠ c := hn 0 (by omega);have := cutAt_at (l := r) (i := i) (by simpa using hi) (by simpa using h) fun j hj => hn (j + 1) (by omega);simp [cutAt, hx, this]
theorem cutAt_no {c : UInt8} : ∀ {l : Bs}, (∀ j (hj : j < l.length), l[j] ≠ c) → cutAt c l = none
  | [], _ => rfl
  | x :: r, h => by
    have hx : x ≠ c := h 0 (by simp);have := cutAt_no (l := r) fun j hj => h (j + 1) (by simp; omega);simp [cutAt, hx, this]
def pairP (eq : Bool) : Option Nat → Option Nat → Option Fct
  | some x, some y => some ⟨eq, (x : Int), (y : Int)⟩
  | _, _ => none
def pairF (eq : Bool) (a b : Bs) : Option Fct := pairP eq (parseT a) (parseT b)
def parseF (l : Bs) : Option Fct := if 9 < l.length then none else match cutAt 61 l with
  | none => none
  | some (a, b) => if a.getLast? = some 33 then pairF false a.dropLast b else pairF true a b
def sign2 (x : UInt8) : Bool := x == 62 || x == 126
def cutX : Bs → Option (Bs × UInt8 × Bs)
  | [] => none
  | x :: r => if sign2 x then some ([], x, r) else (cutX r).map fun p => (x :: p.1, p.2)
theorem cutX_at : ∀ {l : Bs} {i : Nat} (h : i < l.length), sign2 l[i] = true → (∀ j (hj : j < i), sign2 l[j] = false) → cutX l = some (l.take i, l[i], l.drop (i + 1))
  | x :: r, 0, _, h, _ => by simp only [List.getElem_cons_zero] at h; simp [cutX, h]
  | x :: r, i + 1, hi, h, hn => by
    have hx : sign2 x = false := hn 0 (by omega);have := cutX_at (l := r) (i := i) (by simpa using hi) (by simpa using h) fun j hj => hn (j + 1) (by omega);simp [cutX, hx, this]
theorem cutX_no : ∀ {l : Bs}, (∀ j (hj : j < l.length), sign2 l[j] = false) → cutX l = none
  | [], _ => rfl
  | x :: r, h => by
    have hx : sign2 x = false := h 0 (by simp);have := cutX_no (l := r) fun j hj => h (j + 1) (by simp; omega);simp [cutX, hx, this]
def pairX (kd : Int) : Option Nat → Option Nat → Option Atm
  | some m, some n => some ⟨kd, (m : Int), (n : Int)⟩
  | _, _ => none
def parseX (l : Bs) : Option Atm := if 7 < l.length then none else match cutX l with
  | none => none
  | some (a, x, b) => pairX (if x = 126 then 2 else 1) (parseT a) (parseT b)
def splitA (c : UInt8) (acc : Bs) : Bs → List Bs
  | [] => [acc]
  | x :: r => if x = c then acc :: splitA c [] r else splitA c (acc ++ [x]) r
def splitL (c : UInt8) (l : Bs) : List Bs := splitA c [] l
theorem splitA_len (c : UInt8) : ∀ (l acc : Bs), (splitA c acc l).length ≤ l.length + 1
  | [], acc => by simp [splitA]
  | x :: r, acc => by
    have h1 := splitA_len c r [];have h2 := splitA_len c r (acc ++ [x]);unfold splitA
    split
    · simp only [List.length_cons]; omega
    · simp only [List.length_cons]; omega
def wordsL (l : Bs) : List Bs := (splitL 32 l).filter fun x => decide (x ≠ [])
theorem wordsL_len (l : Bs) : (wordsL l).length ≤ l.length + 1 := Nat.le_trans (List.length_filter_le _ _) (splitA_len 32 l [])
def outF (fs : List Fct) : Nat → Bs
  | 0 => []
  | k + 1 => (if 0 < k then outF fs k ++ [32, 38, 32] else outF fs k) ++ fmtF (fs.getD k default)
def signX (x : Atm) : Bs := if x.kind = 2 then [126] else [62]
def outX (o : Bs) (xs : List Atm) : Nat → Bs
  | 0 => o
  | k + 1 => (if k = 0 then outX o xs k ++ [32, 124, 32] else outX o xs k ++ [32, 42, 32]) ++ tnameL (xs.getD k default).a ++ signX (xs.getD k default) ++ tnameL (xs.getD k default).b
def factsT (fs : List Fct) : Bs := if fs.length = 0 then [116, 114, 117, 101] else outF fs fs.length
def textA (a : Asn) : Bs := if a.atoms.length = 0 then factsT a.facts ++ [32, 124, 32, 101, 109, 112] else outX (factsT a.facts) a.atoms a.atoms.length
def fmtA (a : Asn) : Bs := if a.valid then textA a else []
theorem outF_len (fs : List Fct) : ∀ (k : Nat), (outF fs k).length ≤ k * 11
  | 0 => by simp [outF]
  | k + 1 => by
    have h1 := outF_len fs k;have h2 := fmtF_len (fs.getD k default);unfold outF; split <;> simp only [List.length_append, List.length_cons, List.length_nil] <;> omega
theorem outX_len (o : Bs) (xs : List Atm) : ∀ (k : Nat), (outX o xs k).length ≤ o.length + k * 10
  | 0 => by simp [outX]
  | k + 1 => by
    have h1 := outX_len o xs k;have h2 := tnameL_len (xs.getD k default).a;have h3 := tnameL_len (xs.getD k default).b;have h4 : (signX (xs.getD k default)).length = 1 := by unfold signX; split <;> rfl
    unfold outX; split <;> simp only [List.length_append, List.length_cons, List.length_nil, h4] <;> omega
theorem factsT_len (fs : List Fct) : (factsT fs).length ≤ 4 + fs.length * 11 := by
  have h := outF_len fs fs.length;unfold factsT; split
  · simp
  · omega
def stepA (st : List Fct × List Atm × Bool) (x : Bs) : Option (List Fct × List Atm) :=
  match (if st.2.2 then none else parseF x), (if st.2.2 then parseX x else none) with
  | some f, _ => some (st.1 ++ [f], st.2.1)
  | none, some y => some (st.1, st.2.1 ++ [y])
  | none, none => if x ≠ [116, 114, 117, 101] ∧ x ≠ [101, 109, 112] then none else some (st.1, st.2.1)
def readA : List Bs → List Fct × List Atm × Bool → Option Asn
  | [], st => some ⟨st.1, st.2.1⟩
  | [x], st => (stepA st x).map fun p => ⟨p.1, p.2⟩
  | x :: y :: r, st => match stepA st x with
    | none => none
    | some p => readA r (p.1, p.2, st.2.2 || decide (y = [124]))
def parseA (l : Bs) : Option Asn := if 300 < l.length then none else match readA (wordsL l) ([], [], false) with
  | none => none
  | some a => if fmtA a = l ∧ l ≠ [] then some a else none
theorem parseA_valid {l : Bs} {a : Asn} (h : parseA l = some a) : a.valid = true ∧ fmtA a = l := by
  unfold parseA at h
  split at h
  · cases h
  split at h
  · cases h
  split at h
  · rename_i b hb hx
    injection h with h;subst h;refine ⟨?_, hx.1⟩;cases hv : b.valid
    · exfalso
      have := hx.1;unfold fmtA at this;rw [hv] at this;exact hx.2 this.symm
    · rfl
  · cases h
theorem c_TermName (t:Int) (w:World):Calls Tryz.prog 267 #[.int .i64 t] w fun e w'=>e=.returned (sv (tnameL t))∧w=w':=by
 cases ht:isTermB t
 ·(go_enter Tryz.func267,Tryz.ntmps267);(go_wp2_with (go_at_call 132;refine (c_spec_l1Is _ _).mono ?_;rintro e w' ⟨rfl,rfl⟩;rw[ht]));go_ret;exact ⟨by rw[tnameL_out ht];rfl,rfl⟩
 ·have hh:=isTermB_iff.1 ht;have h9:t=0∨t=1∨t=2∨t=3∨t=4∨t=5∨t=6∨t=7∨t=8:=by omega
  clear hh;rcases h9 with rfl|rfl|rfl|rfl|rfl|rfl|rfl|rfl|rfl
  all_goals
   (go_enter Tryz.func267,Tryz.ntmps267);(go_wp2_with (go_at_call 132;refine (c_spec_l1Is _ _).mono ?_;rintro e w' ⟨rfl,rfl⟩;rw[ht]));go_ret;exact ⟨rfl,rfl⟩
theorem c_ParseTerm (l:Bs) (w:World):Calls Tryz.prog 246 #[sv l] w fun e w'=>e=.returned (.tuple #[.int .i64 ((parseT l).getD 0:Nat),.bool (parseT l).isSome])∧w=w':=by
 (go_enter Tryz.func246,Tryz.ntmps246);(go_wp2_with fail)
 go_loopw [4] (fun i wr=>∃ k:Nat,k≤9∧i=.int .i64 k∧aJ (∀ j:Nat,j<k→tnameL j≠l)∧wr=w) (fun i _=>9 - (intOf i).toNat)
 case atStart=>exact ⟨0,by omega,rfl,ax fun j h=>by omega,rfl⟩
 case round=>
  obtain ⟨k,hk,rfl,HN,rfl⟩:=hrel;by_cases h9:k<9
  ·have hki:(k:Int)≤8:=by omega
   by_cases he:tnameL k=l
   ·have hb:(tnameL k == l)=true:=by rw[bytes_eq];simpa using he
    have HR:=ax (parseT_some h9 he HN.o);clear he;(go_wp2_with (go_at_call 267;refine (c_TermName _ _).mono ?_;rintro e w' ⟨rfl,rfl⟩));refine bodyPost_ret (v:=.tuple #[.int .i64 k,.bool true]) (by simp[results,Tryz.results246,go_sem]) rfl ⟨by rw[HR.o];rfl,rfl⟩
   ·have hb:(tnameL k == l)=false:=by rw[bytes_eq];simpa using he
    have HM:aJ (∀ j:Nat,j<k+1→tnameL j≠l):=ax fun j hj=>by
     by_cases e:j=k
     ·subst e;exact he
     ·exact HN.o j (by omega)
    clear he;(go_wp2_with (go_at_call 267;refine (c_TermName _ _).mono ?_;rintro e w' ⟨rfl,rfl⟩))
    go_round
    case rel=>exact ⟨k+1,by omega,by go_num,HM,by first|rfl|trivial⟩
    case measure=>simp[intOf];omega
  ·obtain rfl:k=9:=by omega
   have HR:=ax (parseT_none HN.o);(go_wp2_with fail);refine bodyPost_ret (v:=.tuple #[.int .i64 0,.bool false]) (by simp[results,Tryz.results246,go_sem]) rfl ⟨by rw[HR.o];rfl,rfl⟩
theorem c_ParseTermX (l:Bs) (i j:Nat) (w:World):Calls Tryz.prog 246 #[.string ((ByteArray.mk l.toArray).extract i j)] w fun e w'=>e=.returned (.tuple #[.int .i64 ((parseT ((l.drop i).take (j - i))).getD 0:Nat),.bool (parseT ((l.drop i).take (j - i))).isSome])∧w=w':=by
 rw[bext];exact c_ParseTerm _ w
theorem c_l1Text (f:Fct) (w:World):Calls Tryz.prog 268 #[f.val] w fun e w'=>e=.returned (sv (fmtF f))∧Below w.heap.size w w':=by
 have ha:=tnameL_len f.a;have hb:=tnameL_len f.b;obtain ⟨eq,a,b⟩:=f;simp only at ha hb;unfold Fct.val;simp only;cases eq
 ·skip;have h1:=fun w:World=>addS (P:=Tryz.prog) (tnameL a) [33,61] (by simp;omega) w;have h2:=fun w:World=>addS (P:=Tryz.prog) (tnameL a++[33,61]) (tnameL b) (by simp;omega) w;(go_enter Tryz.func268,Tryz.ntmps268);(go_wp2_with fail)
  go_region_held3 (fun w'=>∀ i,w'.cell? ⟨w.heap.size,i,none⟩=#[.bool false,.int .i64 a,.int .i64 b][i]?)
   (exact Blk.cell blks)
   (first|(go_at_call 267;refine (c_TermName _ _).mono ?_;rintro e w' ⟨rfl,rfl⟩))
  all_goals
   (go_wp2_with fail);go_ret;exact ⟨ret_str (by simp[fmtF]),bel⟩
 ·skip;have h1:=fun w:World=>addS (P:=Tryz.prog) (tnameL a) [61] (by simp;omega) w;have h2:=fun w:World=>addS (P:=Tryz.prog) (tnameL a++[61]) (tnameL b) (by simp;omega) w;(go_enter Tryz.func268,Tryz.ntmps268);(go_wp2_with fail)
  go_region_held3 (fun w'=>∀ i,w'.cell? ⟨w.heap.size,i,none⟩=#[.bool true,.int .i64 a,.int .i64 b][i]?)
   (exact Blk.cell blks)
   (first|(go_at_call 267;refine (c_TermName _ _).mono ?_;rintro e w' ⟨rfl,rfl⟩))
  all_goals
   (go_wp2_with fail);go_ret;exact ⟨ret_str (by simp[fmtF]),bel⟩
theorem u8_eq (c:UInt8) (n:Nat) (hn:n<256):((c.toNat:Int) == (n:Int))=decide (c=UInt8.ofNat n):=by
 rw[Bool.eq_iff_iff,beq_iff_eq,decide_eq_true_iff];constructor
 ·intro h;have:c.toNat=n:=by omega
  rw[←this];simp
 ·rintro rfl;rw[UInt8.toNat_ofNat',Nat.mod_eq_of_lt (by omega)]
theorem parseF_cut {l:Bs} {k:Nat} (hl:l.length≤9) (hk:k<l.length) (h:l[k]=61) (hn:∀ j (hj:j<k),l[j]≠61) :
  parseF l=if (l.take k).getLast? = some 33 then pairF false (l.take k).dropLast (l.drop (k+1)) else pairF true (l.take k) (l.drop (k+1)):=by
 unfold parseF;rw[if_neg (by omega),cutAt_at hk h hn]
theorem parseF_no {l:Bs} (hn:∀ j (hj:j<l.length),l[j]≠61):parseF l=none:=by
 unfold parseF;rw[cutAt_no hn]
 split<;>rfl
def fct0:Fct:=⟨false,0,0⟩
theorem c_ParseFact (l:Bs) (w:World):Calls Tryz.prog 205 #[sv l] w fun e w'=>e=.returned (.tuple #[((parseF l).getD fct0).val,.bool (parseF l).isSome])∧Below w.heap.size w w':=by
 by_cases hl:l.length≤9
 ·have hli:(l.length:Int)≤9:=by omega
  (go_enter Tryz.func205,Tryz.ntmps205);(go_wp2_with fail)
  go_loopw [4] (fun i wr=>∃ k:Nat,k≤l.length∧i=.int .i64 k∧aJ (∀ j (hj:j<k) (hj2:j<l.length),l[j]≠61)∧wr=w.alloc (.cells #[.bool false,.int .i64 0,.int .i64 0] tF)) (fun i _=>l.length - (intOf i).toNat)
  case atStart=>exact ⟨0,by omega,rfl,ax fun j h=>by omega,rfl⟩
  case round=>
   obtain ⟨k,hk,rfl,HN,rfl⟩:=hrel;by_cases hlt:k<l.length
   ·have hki:(k:Int)<(l.length:Int):=by omega
    have hx:=bidx l k hlt;by_cases hc:l[k]=61
    ·have HP:=ax (parseF_cut hl hlt hc fun j hj=>HN.o j hj (by omega));obtain ⟨c,hcc⟩:∃ c,c=l[k]:=⟨_,rfl⟩;rw[←hcc] at hx hc;have hb:((c.toNat:Int) == 61)=true:=by rw[show (61:Int)=((61:Nat):Int) from rfl,u8_eq c 61 (by decide)];simpa using hc
     clear hcc hc;by_cases hk0:0<k
     ·obtain ⟨m,hm⟩:∃ m,m+1=k:=⟨k - 1,by omega⟩;have hk0i:(0:Int)<(k:Int):=by omega
      have hmi:(k:Int) - 1=(m:Int):=by omega
      have hml:(m:Int)<(l.length:Int):=by omega
      have hx2:=bidx l m (by omega)
      have hL0:(l.take k).getLast? = some (l[m]'(by omega)):=by
       subst hm;rw[List.getLast?_eq_getElem?,List.length_take,Nat.min_eq_left (by omega),Nat.add_sub_cancel,List.getElem?_take,if_pos (by omega),List.getElem?_eq_getElem (by omega)]
      have hdrop:(l.take k).dropLast=l.take m:=by
       subst hm;rw[List.dropLast_take (by omega),Nat.add_sub_cancel]
      obtain ⟨d,hdd⟩:∃ d,d=l[m]'(by omega):=⟨_,rfl⟩;rw[←hdd] at hx2 hL0;clear hdd;by_cases hd:d=33
      ·have hb2:((d.toNat:Int) == 33)=true:=by rw[show (33:Int)=((33:Nat):Int) from rfl,u8_eq d 33 (by decide)];simpa using hd
       have hlast:(l.take k).getLast? = some 33:=by rw[hL0,hd]
       clear hL0 hd hm;obtain ⟨pa,hpa⟩:∃ x,x=parseT ((l.drop 0).take (m - 0)):=⟨_,rfl⟩;have ca:=fun w=>c_ParseTermX l 0 m w;rw[←hpa] at ca;replace ca:=ax ca;obtain ⟨pb,hpb⟩:∃ x,x=parseT ((l.drop (k+1)).take (l.length - (k+1))):=⟨_,rfl⟩;have cb:=fun w=>c_ParseTermX l (k+1) l.length w;rw[←hpb] at cb;replace cb:=ax cb
       have hE:aJ (parseF l=pairP false pa pb):=ax (by
        rw[HP.o,hpa,hpb,List.drop_zero,Nat.sub_zero,List.take_of_length_le (l:=l.drop (k+1)) (by simp)]
        rw[if_pos hlast,hdrop];rfl)
       clear hpa hpb HP
       cases pa with
       | none=>
        have hR:aJ (parseF l=none):=ax hE.o;clear hE;(go_wp2_with fail);refine (ca.o _).mono ?_;rintro e w2 ⟨rfl,rfl⟩;(go_wp2_with fail);refine (cb.o _).mono ?_;rintro e w2 ⟨rfl,rfl⟩;(go_wp2_with fail);refine bodyPost_ret (v:=.tuple #[.agg #[.bool false,.int .i64 0,.int .i64 0],.bool false]) (by simp[results,Tryz.results205,go_sem]) rfl ⟨by rw[hR.o];rfl,bel⟩
       | some a=>
        cases pb with
        | none=>
         have hR:aJ (parseF l=none):=ax hE.o;clear hE;(go_wp2_with fail);refine (ca.o _).mono ?_;rintro e w2 ⟨rfl,rfl⟩;(go_wp2_with fail);refine (cb.o _).mono ?_;rintro e w2 ⟨rfl,rfl⟩;(go_wp2_with fail);refine bodyPost_ret (v:=.tuple #[.agg #[.bool false,.int .i64 0,.int .i64 0],.bool false]) (by simp[results,Tryz.results205,go_sem]) rfl ⟨by rw[hR.o];rfl,bel⟩
        | some b=>
         have hR:aJ (parseF l=some ⟨false,(a:Int),(b:Int)⟩):=ax hE.o;clear hE;(go_wp2_with fail);refine (ca.o _).mono ?_;rintro e w2 ⟨rfl,rfl⟩;(go_wp2_with fail);refine (cb.o _).mono ?_;rintro e w2 ⟨rfl,rfl⟩;(go_wp2_with fail);refine bodyPost_ret (v:=.tuple #[.agg #[.bool false,.int .i64 a,.int .i64 b],.bool true]) (by simp[results,Tryz.results205,go_sem]) rfl ⟨by rw[hR.o];rfl,bel⟩
      ·have hb2:((d.toNat:Int) == 33)=false:=by rw[show (33:Int)=((33:Nat):Int) from rfl,u8_eq d 33 (by decide)];simpa using hd
       have hlast:¬(l.take k).getLast? = some 33:=by rw[hL0];simpa using hd
       clear hL0 hd hm;obtain ⟨pa,hpa⟩:∃ x,x=parseT ((l.drop 0).take (k - 0)):=⟨_,rfl⟩;have ca:=fun w=>c_ParseTermX l 0 k w;rw[←hpa] at ca;replace ca:=ax ca;obtain ⟨pb,hpb⟩:∃ x,x=parseT ((l.drop (k+1)).take (l.length - (k+1))):=⟨_,rfl⟩;have cb:=fun w=>c_ParseTermX l (k+1) l.length w;rw[←hpb] at cb;replace cb:=ax cb
       have hE:aJ (parseF l=pairP true pa pb):=ax (by
        rw[HP.o,hpa,hpb,List.drop_zero,Nat.sub_zero,List.take_of_length_le (l:=l.drop (k+1)) (by simp)]
        rw[if_neg hlast];rfl)
       clear hpa hpb HP
       cases pa with
       | none=>
        have hR:aJ (parseF l=none):=ax hE.o;clear hE;(go_wp2_with fail);refine (ca.o _).mono ?_;rintro e w2 ⟨rfl,rfl⟩;(go_wp2_with fail);refine (cb.o _).mono ?_;rintro e w2 ⟨rfl,rfl⟩;(go_wp2_with fail);refine bodyPost_ret (v:=.tuple #[.agg #[.bool false,.int .i64 0,.int .i64 0],.bool false]) (by simp[results,Tryz.results205,go_sem]) rfl ⟨by rw[hR.o];rfl,bel⟩
       | some a=>
        cases pb with
        | none=>
         have hR:aJ (parseF l=none):=ax hE.o;clear hE;(go_wp2_with fail);refine (ca.o _).mono ?_;rintro e w2 ⟨rfl,rfl⟩;(go_wp2_with fail);refine (cb.o _).mono ?_;rintro e w2 ⟨rfl,rfl⟩;(go_wp2_with fail);refine bodyPost_ret (v:=.tuple #[.agg #[.bool false,.int .i64 0,.int .i64 0],.bool false]) (by simp[results,Tryz.results205,go_sem]) rfl ⟨by rw[hR.o];rfl,bel⟩
        | some b=>
         have hR:aJ (parseF l=some ⟨true,(a:Int),(b:Int)⟩):=ax hE.o;clear hE;(go_wp2_with fail);refine (ca.o _).mono ?_;rintro e w2 ⟨rfl,rfl⟩;(go_wp2_with fail);refine (cb.o _).mono ?_;rintro e w2 ⟨rfl,rfl⟩;(go_wp2_with fail);refine bodyPost_ret (v:=.tuple #[.agg #[.bool true,.int .i64 a,.int .i64 b],.bool true]) (by simp[results,Tryz.results205,go_sem]) rfl ⟨by rw[hR.o];rfl,bel⟩
     ·have hk0i:¬(0:Int)<(k:Int):=by omega
      have hlast:¬(l.take k).getLast? = some 33:=by
       obtain rfl:k=0:=by omega
       simp
      clear hk0;obtain ⟨pa,hpa⟩:∃ x,x=parseT ((l.drop 0).take (k - 0)):=⟨_,rfl⟩;have ca:=fun w=>c_ParseTermX l 0 k w;rw[←hpa] at ca;replace ca:=ax ca;obtain ⟨pb,hpb⟩:∃ x,x=parseT ((l.drop (k+1)).take (l.length - (k+1))):=⟨_,rfl⟩;have cb:=fun w=>c_ParseTermX l (k+1) l.length w;rw[←hpb] at cb;replace cb:=ax cb
      have hE:aJ (parseF l=pairP true pa pb):=ax (by
       rw[HP.o,hpa,hpb,List.drop_zero,Nat.sub_zero,List.take_of_length_le (l:=l.drop (k+1)) (by simp)]
       rw[if_neg hlast];rfl)
      clear hpa hpb HP
      cases pa with
      | none=>
       have hR:aJ (parseF l=none):=ax hE.o;clear hE;(go_wp2_with fail);refine (ca.o _).mono ?_;rintro e w2 ⟨rfl,rfl⟩;(go_wp2_with fail);refine (cb.o _).mono ?_;rintro e w2 ⟨rfl,rfl⟩;(go_wp2_with fail);refine bodyPost_ret (v:=.tuple #[.agg #[.bool false,.int .i64 0,.int .i64 0],.bool false]) (by simp[results,Tryz.results205,go_sem]) rfl ⟨by rw[hR.o];rfl,bel⟩
      | some a=>
       cases pb with
       | none=>
        have hR:aJ (parseF l=none):=ax hE.o;clear hE;(go_wp2_with fail);refine (ca.o _).mono ?_;rintro e w2 ⟨rfl,rfl⟩;(go_wp2_with fail);refine (cb.o _).mono ?_;rintro e w2 ⟨rfl,rfl⟩;(go_wp2_with fail);refine bodyPost_ret (v:=.tuple #[.agg #[.bool false,.int .i64 0,.int .i64 0],.bool false]) (by simp[results,Tryz.results205,go_sem]) rfl ⟨by rw[hR.o];rfl,bel⟩
       | some b=>
        have hR:aJ (parseF l=some ⟨true,(a:Int),(b:Int)⟩):=ax hE.o;clear hE;(go_wp2_with fail);refine (ca.o _).mono ?_;rintro e w2 ⟨rfl,rfl⟩;(go_wp2_with fail);refine (cb.o _).mono ?_;rintro e w2 ⟨rfl,rfl⟩;(go_wp2_with fail);refine bodyPost_ret (v:=.tuple #[.agg #[.bool true,.int .i64 a,.int .i64 b],.bool true]) (by simp[results,Tryz.results205,go_sem]) rfl ⟨by rw[hR.o];rfl,bel⟩
    ·obtain ⟨c,hcc⟩:∃ c,c=l[k]:=⟨_,rfl⟩;rw[←hcc] at hx hc;have hb:((c.toNat:Int) == 61)=false:=by rw[show (61:Int)=((61:Nat):Int) from rfl,u8_eq c 61 (by decide)];simpa using hc
     have HM:aJ (∀ j (hj:j<k+1) (hj2:j<l.length),l[j]≠61):=ax fun j hj hj2=>by
      by_cases e:j=k
      ·subst e;rw[←hcc];exact hc
      ·exact HN.o j (by omega) hj2
     clear hcc hc;(go_wp2_with fail)
     go_round
     case rel=>exact ⟨k+1,by omega,by go_num,HM,by first|rfl|trivial⟩
     case measure=>simp[intOf];omega
   ·obtain rfl:k=l.length:=by omega
    have HP:=ax (parseF_no fun j hj=>HN.o j hj hj);(go_wp2_with fail);refine bodyPost_ret (v:=.tuple #[.agg #[.bool false,.int .i64 0,.int .i64 0],.bool false]) (by simp[results,Tryz.results205,go_sem]) rfl ⟨by rw[HP.o];rfl,bel⟩
 ·have hli:¬(l.length:Int)≤9:=by omega
  have hl0:(0:Int)<(l.length:Int):=by omega
  have HP:=ax (show parseF l=none by unfold parseF;rw[if_pos (by omega)]);clear hl;(go_enter Tryz.func205,Tryz.ntmps205);(go_wp2_with fail)
  go_loopw [4] (fun i wr=>i=.int .i64 0∧wr=w.alloc (.cells #[.bool false,.int .i64 0,.int .i64 0] tF)) (fun _ _=>0)
  case atStart=>exact ⟨rfl,rfl⟩
  case round=>
   obtain ⟨rfl,rfl⟩:=hrel;(go_wp2_with fail);refine bodyPost_ret (v:=.tuple #[.agg #[.bool false,.int .i64 0,.int .i64 0],.bool false]) (by simp[results,Tryz.results205,go_sem]) rfl ⟨by rw[HP.o];rfl,bel⟩
theorem parseX_cut {l:Bs} {k:Nat} (hl:l.length≤7) (hk:k<l.length) (h:sign2 l[k]=true) (hn:∀ j (hj:j<k),sign2 l[j]=false) :
  parseX l=pairX (if l[k]=126 then 2 else 1) (parseT (l.take k)) (parseT (l.drop (k+1))):=by
 unfold parseX;rw[if_neg (by omega),cutX_at hk h hn]
theorem parseX_no {l:Bs} (hn:∀ j (hj:j<l.length),sign2 l[j]=false):parseX l=none:=by
 unfold parseX;rw[cutX_no hn]
 split<;>rfl
theorem pairX_isSome (kd:Int) (a:Nat) (pb:Option Nat):(pairX kd (some a) pb).isSome=pb.isSome:=by cases pb<;>rfl
theorem c_ParseAtom (l:Bs) (w:World):Calls Tryz.prog 206 #[sv l] w fun e w'=>∃ y:Atm,e=.returned (.tuple #[.agg #[.int .i64 y.kind,.int .i64 y.a,.int .i64 y.b],.bool (parseX l).isSome])∧(∀ z,parseX l=some z→y=z)∧Below w.heap.size w w':=by
 by_cases hl:l.length≤7
 ·have hli:(l.length:Int)≤7:=by omega
  (go_enter Tryz.func206,Tryz.ntmps206);(go_wp2_with fail)
  go_loopw [4] (fun i wr=>∃ k:Nat,k≤l.length∧i=.int .i64 k∧aJ (∀ j (hj:j<k) (hj2:j<l.length),sign2 l[j]=false)∧wr=w.alloc (.cells #[.int .i64 0,.int .i64 0,.int .i64 0] tA)) (fun i _=>l.length - (intOf i).toNat)
  case atStart=>exact ⟨0,by omega,rfl,ax fun j h=>by omega,rfl⟩
  case round=>
   obtain ⟨k,hk,rfl,HN,rfl⟩:=hrel;by_cases hlt:k<l.length
   ·have hki:(k:Int)<(l.length:Int):=by omega
    have hx:=bidx l k hlt;cases hc:sign2 l[k]
    ·obtain ⟨c,hcc⟩:∃ c,c=l[k]:=⟨_,rfl⟩
     have HM:aJ (∀ j (hj:j<k+1) (hj2:j<l.length),sign2 l[j]=false):=ax fun j hj hj2=>by
      by_cases e:j=k
      ·subst e;exact hc
      ·exact HN.o j (by omega) hj2
     rw[←hcc] at hx hc;have h2:¬c=62∧¬c=126:=by unfold sign2 at hc;simpa using hc
     have hb1:((c.toNat:Int) == 62)=false:=by rw[show (62:Int)=((62:Nat):Int) from rfl,u8_eq c 62 (by decide)];simpa using h2.1
     have hb1x:¬((c.toNat:Int)=62):=by simpa using hb1
     have hb1y:((c.toNat:Int) != 62)=true:=by simpa using hb1
     have hb2:((c.toNat:Int) == 126)=false:=by rw[show (126:Int)=((126:Nat):Int) from rfl,u8_eq c 126 (by decide)];simpa using h2.2
     have hb2x:¬((c.toNat:Int)=126):=by simpa using hb2
     have hb2y:((c.toNat:Int) != 126)=true:=by simpa using hb2
     clear hcc hc h2;(go_wp2_with fail)
     go_round
     case rel=>exact ⟨k+1,by omega,by go_num,HM,by first|rfl|trivial⟩
     case measure=>simp[intOf];omega
    ·have HP:=ax (parseX_cut hl hlt hc fun j hj=>HN.o j hj (by omega));obtain ⟨c,hcc⟩:∃ c,c=l[k]:=⟨_,rfl⟩;rw[←hcc] at hx hc HP;have h2:c=62∨c=126:=by unfold sign2 at hc;simpa using hc
     clear hcc hc;obtain ⟨pa,hpa⟩:∃ x,x=parseT ((l.drop 0).take (k - 0)):=⟨_,rfl⟩;have ca:=fun w=>c_ParseTermX l 0 k w;rw[←hpa] at ca;replace ca:=ax ca;obtain ⟨pb,hpb⟩:∃ x,x=parseT ((l.drop (k+1)).take (l.length - (k+1))):=⟨_,rfl⟩;have cb:=fun w=>c_ParseTermX l (k+1) l.length w;rw[←hpb] at cb;replace cb:=ax cb
     have hE:aJ (parseX l=pairX (if c=126 then 2 else 1) pa pb):=ax (by
      rw[HP.o,hpa,hpb,List.drop_zero,Nat.sub_zero,List.take_of_length_le (l:=l.drop (k+1)) (by simp)])
     clear hpa hpb HP;rcases h2 with h2|h2
     ·replace hE:aJ (parseX l=pairX 1 pa pb):=ax (by rw[hE.o,h2];rfl);subst h2
      cases pa with
      | none=>
       have hR:aJ (parseX l=none):=ax hE.o;clear hE;(go_wp2_with fail);refine (ca.o _).mono ?_;rintro e w2 ⟨rfl,rfl⟩;(go_wp2_with fail);refine (cb.o _).mono ?_;rintro e w2 ⟨rfl,rfl⟩;obtain ⟨nb,hnb⟩:∃ nb:Nat,nb=pb.getD 0:=⟨_,rfl⟩;rw[←hnb];clear hnb;(go_wp2_with fail);refine bodyPost_ret (v:=.tuple #[.agg #[.int .i64 1,.int .i64 0,.int .i64 nb],.bool false]) (by simp[results,Tryz.results206,go_sem]) rfl ⟨⟨1,0,nb⟩,by rw[hR.o];rfl,(by rw[hR.o];intro z h;cases h),bel⟩
      | some a=>
       have hS:aJ ((parseX l).isSome=pb.isSome):=ax (by rw[hE.o,pairX_isSome]);obtain ⟨nb,hnb⟩:∃ nb:Nat,nb=pb.getD 0:=⟨_,rfl⟩
       have hZ:aJ (∀ z,parseX l=some z→(⟨1,(a:Int),(nb:Int)⟩:Atm)=z):=ax (by
        intro z hz;rw[hE.o,hnb] at *
        cases pb with
        | none=>cases hz
        | some b=>injection hz)
       clear hE;(go_wp2_with fail);refine (ca.o _).mono ?_;rintro e w2 ⟨rfl,rfl⟩;(go_wp2_with fail);refine (cb.o _).mono ?_;rintro e w2 ⟨rfl,rfl⟩;obtain ⟨sb,hsb⟩:∃ sb:Bool,sb=pb.isSome:=⟨_,rfl⟩;rw[←hsb] at hS ⊢;rw[←hnb];clear hnb hsb;(go_wp2_with fail);refine bodyPost_ret (v:=.tuple #[.agg #[.int .i64 1,.int .i64 a,.int .i64 nb],.bool sb]) (by simp[results,Tryz.results206,go_sem]) rfl ⟨⟨1,a,nb⟩,by rw[hS.o],hZ.o,bel⟩
     ·replace hE:aJ (parseX l=pairX 2 pa pb):=ax (by rw[hE.o,h2];rfl);subst h2
      cases pa with
      | none=>
       have hR:aJ (parseX l=none):=ax hE.o;clear hE;(go_wp2_with fail);refine (ca.o _).mono ?_;rintro e w2 ⟨rfl,rfl⟩;(go_wp2_with fail);refine (cb.o _).mono ?_;rintro e w2 ⟨rfl,rfl⟩;obtain ⟨nb,hnb⟩:∃ nb:Nat,nb=pb.getD 0:=⟨_,rfl⟩;rw[←hnb];clear hnb;(go_wp2_with fail);refine bodyPost_ret (v:=.tuple #[.agg #[.int .i64 2,.int .i64 0,.int .i64 nb],.bool false]) (by simp[results,Tryz.results206,go_sem]) rfl ⟨⟨2,0,nb⟩,by rw[hR.o];rfl,(by rw[hR.o];intro z h;cases h),bel⟩
      | some a=>
       have hS:aJ ((parseX l).isSome=pb.isSome):=ax (by rw[hE.o,pairX_isSome]);obtain ⟨nb,hnb⟩:∃ nb:Nat,nb=pb.getD 0:=⟨_,rfl⟩
       have hZ:aJ (∀ z,parseX l=some z→(⟨2,(a:Int),(nb:Int)⟩:Atm)=z):=ax (by
        intro z hz;rw[hE.o,hnb] at *
        cases pb with
        | none=>cases hz
        | some b=>injection hz)
       clear hE;(go_wp2_with fail);refine (ca.o _).mono ?_;rintro e w2 ⟨rfl,rfl⟩;(go_wp2_with fail);refine (cb.o _).mono ?_;rintro e w2 ⟨rfl,rfl⟩;obtain ⟨sb,hsb⟩:∃ sb:Bool,sb=pb.isSome:=⟨_,rfl⟩;rw[←hsb] at hS ⊢;rw[←hnb];clear hnb hsb;(go_wp2_with fail);refine bodyPost_ret (v:=.tuple #[.agg #[.int .i64 2,.int .i64 a,.int .i64 nb],.bool sb]) (by simp[results,Tryz.results206,go_sem]) rfl ⟨⟨2,a,nb⟩,by rw[hS.o],hZ.o,bel⟩
   ·obtain rfl:k=l.length:=by omega
    have HP:=ax (parseX_no fun j hj=>HN.o j hj hj);(go_wp2_with fail);refine bodyPost_ret (v:=.tuple #[.agg #[.int .i64 0,.int .i64 0,.int .i64 0],.bool false]) (by simp[results,Tryz.results206,go_sem]) rfl ⟨⟨0,0,0⟩,by rw[HP.o];rfl,(by rw[HP.o];intro z h;cases h),bel⟩
 ·have hli:¬(l.length:Int)≤7:=by omega
  have hl0:(0:Int)<(l.length:Int):=by omega
  have HP:=ax (show parseX l=none by unfold parseX;rw[if_pos (by omega)]);clear hl;(go_enter Tryz.func206,Tryz.ntmps206);(go_wp2_with fail)
  go_loopw [4] (fun i wr=>i=.int .i64 0∧wr=w.alloc (.cells #[.int .i64 0,.int .i64 0,.int .i64 0] tA)) (fun _ _=>0)
  case atStart=>exact ⟨rfl,rfl⟩
  case round=>
   obtain ⟨rfl,rfl⟩:=hrel;(go_wp2_with fail);refine bodyPost_ret (v:=.tuple #[.agg #[.int .i64 0,.int .i64 0,.int .i64 0],.bool false]) (by simp[results,Tryz.results206,go_sem]) rfl ⟨⟨0,0,0⟩,by rw[HP.o];rfl,(by rw[HP.o];intro z h;cases h),bel⟩
theorem u8_eq2 (x c:UInt8):((x.toNat:Int) == (c.toNat:Int))=decide (x=c):=by
 rw[Bool.eq_iff_iff,beq_iff_eq,decide_eq_true_iff];constructor
 ·intro h;exact UInt8.toNat_inj.1 (by omega)
 ·rintro rfl;rfl
def cutSt (c:UInt8) (l:Bs) (i fr:Nat) (xs:List Bs):Prop:=
 fr≤i∧xs.length≤i∧(i≤l.length→splitL c l=xs++splitA c ((l.drop fr).take (i - fr)) (l.drop i))∧(l.length<i→splitL c l=xs)
theorem cutSt.start (c:UInt8) (l:Bs):cutSt c l 0 0 []:=⟨Nat.le_refl _,Nat.le_refl _,fun _=>by simp[splitL],fun h=>by omega⟩
theorem cutSt.hit {c:UInt8} {l:Bs} {i fr:Nat} {xs:List Bs} (h:cutSt c l i fr xs) (hi:i<l.length) (hc:l[i]=c):cutSt c l (i+1) (i+1) (xs++[(l.drop fr).take (i - fr)]):=by
 obtain ⟨h1,h2,h3,h4⟩:=h;refine ⟨Nat.le_refl _,by simpa using h2,fun _=>?_,fun h=>by omega⟩;rw[h3 (by omega),List.drop_eq_getElem_cons hi,splitA,if_pos hc];simp
theorem cutSt.miss {c:UInt8} {l:Bs} {i fr:Nat} {xs:List Bs} (h:cutSt c l i fr xs) (hi:i<l.length) (hc:l[i]≠c):cutSt c l (i+1) fr xs:=by
 obtain ⟨h1,h2,h3,h4⟩:=h;refine ⟨by omega,by omega,fun _=>?_,fun h=>by omega⟩;rw[h3 (by omega),List.drop_eq_getElem_cons hi,splitA,if_neg hc]
 congr 2
 rw[show i+1 - fr=(i - fr)+1 by omega,List.take_add_one,List.getElem?_drop,show fr+(i - fr)=i by omega,List.getElem?_eq_getElem hi];rfl
theorem cutSt.last {c:UInt8} {l:Bs} {i fr:Nat} {xs:List Bs} (h:cutSt c l i fr xs) (hi:i=l.length):cutSt c l (i+1) (i+1) (xs++[(l.drop fr).take (i - fr)]):=by
 obtain ⟨h1,h2,h3,h4⟩:=h;refine ⟨Nat.le_refl _,by simpa using h2,fun h=>by omega,fun _=>?_⟩;rw[h3 (by omega),hi,List.drop_length,splitA]
theorem box_ext (w:World) (l:Bs) (i j:Nat) (t:TypeId):(w.alloc (.cells #[.string ((ByteArray.mk l.toArray).extract i j)] t)).cell? ⟨w.heap.size,0,none⟩=some (sv ((l.drop i).take (j - i))):=by
 rw[bext];exact cell_box w _ t
theorem c_l18Cut (l:Bs) (c:UInt8) (w:World) (hl:l.length≤1049000):Calls Tryz.prog 226 #[sv l,.int .u8 (c.toNat:Nat)] w fun e w'=>∃ r,e=.returned r∧StrsO w' w.heap.size r (splitL c l)∧Below w.heap.size w w':=by
 (go_enter Tryz.func226,Tryz.ntmps226);have hO:StrsO (w.alloc (.cells #[] tS)) w.heap.size (.slice (some ⟨w.heap.size,0,none⟩) 0 0) []:=StrsO.empty _ rfl;have hB:Below w.heap.size w (w.alloc (.cells #[] tS)):=bel;(go_wp2_with fail)
 go_loopw [5,6,7] (fun u fr i wr=>∃ (k f:Nat) (A:Option Addr) (d:Nat) (xs:List Bs),k≤l.length+1∧i=.int .i64 k∧fr=.int .i64 f∧u=.slice A xs.length d∧StrsO wr w.heap.size (.slice A xs.length d) xs∧aJ (cutSt c l k f xs)∧aJ (Below w.heap.size w wr)) (fun _ _ i _=>l.length+1 - (intOf i).toNat)
 case atStart=>exact ⟨0,0,_,0,[],by omega,rfl,rfl,rfl,hO,ax (cutSt.start c l),hB⟩
 case round=>
  clear hO hB;obtain ⟨k,f,A,d,xs,hk,rfl,rfl,rfl,hO,hC,HB⟩:=hrel;have HO:=ax hO;have hf:=hC.o.1;have hx:=hC.o.2.1;have hz:=HB.o.size;clear hO;by_cases hle:k≤l.length
  ·have hkl:(k:Int)≤(l.length:Int):=by omega
   by_cases hlt:k<l.length
   ·have hki:(k:Int)<(l.length:Int):=by omega
    have hke:((k:Int) == (l.length:Int))=false:=by simp;omega
    have hb:=bidx l k hlt;by_cases hc:l[k]=c
    ·have hN:=ax (hC.o.hit hlt hc);obtain ⟨x,hxx⟩:∃ x,x=l[k]:=⟨_,rfl⟩;rw[←hxx] at hb hc;have hbc:((x.toNat:Int) == (c.toNat:Int))=true:=by rw[u8_eq2];simpa using hc
     clear hc hxx;(go_wp2_with (at_builtin;refine appS rfl _ _ rfl (v:=.slice A xs.length d) rfl (StrsO.bz (w:=wr) HO.o bel) wr.heap.size ((l.drop f).take (k - f)) rfl (box_ext wr l f k _) (by omega) (by simp;omega) ?_;intro g2 d2 w2 o2 hg2 hB2));have hBB:Below w.heap.size w w2:=((HB.o.alloc hz _).trans hB2)
     go_round
     case rel=>exact ⟨k+1,k+1,some ⟨g2,0,none⟩,d2,xs++[(l.drop f).take (k - f)],by omega,by go_num,by go_num,by simp,by simpa using o2,hN,hBB⟩
     case measure=>simp[intOf];omega
    ·have hN:=ax (hC.o.miss hlt hc);obtain ⟨x,hxx⟩:∃ x,x=l[k]:=⟨_,rfl⟩;rw[←hxx] at hb hc;have hbc:((x.toNat:Int) == (c.toNat:Int))=false:=by rw[u8_eq2];simpa using hc
     clear hc hxx;(go_wp2_with fail)
     go_round
     case rel=>exact ⟨k+1,f,A,d,xs,by omega,by go_num,rfl,rfl,HO.o,hN,HB.o⟩
     case measure=>simp[intOf];omega
   ·have hke:((k:Int) == (l.length:Int))=true:=by simp;omega
    have hN:=ax (hC.o.last (by omega));(go_wp2_with (at_builtin;refine appS rfl _ _ rfl (v:=.slice A xs.length d) rfl (StrsO.bz (w:=wr) HO.o bel) wr.heap.size ((l.drop f).take (k - f)) rfl (box_ext wr l f k _) (by omega) (by simp;omega) ?_;intro g2 d2 w2 o2 hg2 hB2));have hBB:Below w.heap.size w w2:=((HB.o.alloc hz _).trans hB2)
    go_round
    case rel=>exact ⟨k+1,k+1,some ⟨g2,0,none⟩,d2,xs++[(l.drop f).take (k - f)],by omega,by go_num,by go_num,by simp,by simpa using o2,hN,hBB⟩
    case measure=>simp[intOf];omega
  ·have hkl:¬(k:Int)≤(l.length:Int):=by omega
   have hE:=ax (hC.o.2.2.2 (by omega));(go_wp2_with fail);go_ret;exact ⟨_,rfl,by rw[hE.o];exact HO.o,HB.o⟩
theorem words_take {ss:List Bs} {k:Nat} (hk:k<ss.length):(ss.take (k+1)).filter (fun x=>decide (x≠[]))=(ss.take k).filter (fun x=>decide (x≠[]))++(if ss[k]=[] then [] else [ss[k]]):=by
 rw[List.take_add_one,List.filter_append,List.getElem?_eq_getElem hk]
 congr 1
 by_cases h:ss[k]=[]<;>simp[h]
theorem c_l18Words (l:Bs) (w:World) (hl:l.length≤1049000):Calls Tryz.prog 204 #[sv l] w fun e w'=>∃ r,e=.returned r∧StrsO w' w.heap.size r (wordsL l)∧Below w.heap.size w w':=by
 (go_enter Tryz.func204,Tryz.ntmps204);(go_wp2_with fail);refine (c_l18Cut l 32 _ hl).mono ?_;rintro e w1 ⟨r1,rfl,o1,hB1⟩;obtain ⟨A1,d1,rfl,v1⟩:=o1.reads;have hW:=ax (show wordsL l=((splitL 32 l).take (splitL 32 l).length).filter fun x=>decide (x≠[]) by rw[List.take_length];rfl);have hn:=splitA_len 32 l []
 change (splitL 32 l).length≤_ at hn
 obtain ⟨ss,hss⟩:∃ ss,ss=splitL 32 l:=⟨_,rfl⟩;rw[←hss] at v1 hW hn ⊢;have HV:=ax v1;have z1:=hB1.size;have HW1:=ax hB1;have hO:StrsO (w1.alloc (.cells #[] tS)) w1.heap.size (.slice (some ⟨w1.heap.size,0,none⟩) 0 0) []:=StrsO.empty _ rfl;have hB:Below w1.heap.size w1 (w1.alloc (.cells #[] tS)):=bel;clear v1 o1 hB1 hss;(go_wp2_with fail)
 go_loopw [4,5] (fun u i wr=>∃ (k:Nat) (A:Option Addr) (d:Nat) (xs:List Bs),k≤ss.length∧i=.int .i64 k∧u=.slice A xs.length d∧StrsO wr w1.heap.size (.slice A xs.length d) xs∧aJ (xs=(ss.take k).filter fun x=>decide (x≠[]))∧aJ (Below w1.heap.size w1 wr)) (fun _ i _=>ss.length - (intOf i).toNat)
 case atStart=>exact ⟨0,_,0,[],by omega,rfl,rfl,hO,ax rfl,hB⟩
 case round=>
  clear hO hB;obtain ⟨k,A,d,xs,hk,rfl,rfl,hO,hC,HB⟩:=hrel;have HO:=ax hO;have hx:xs.length≤k:=by rw[hC.o];exact Nat.le_trans (List.length_filter_le _ _) (by simp;omega)
  have hz:=HB.o.size;clear hO;by_cases hlt:k<ss.length
  ·have hki:(k:Int)<(ss.length:Int):=by omega
   have hN:=ax (words_take hlt);obtain ⟨b,o,rfl,hc⟩:=(HV.o.bz HB.o).at hlt;have hbl:=block_lt_of_cell hc;obtain ⟨x,hxx⟩:∃ x,x=ss[k]:=⟨_,rfl⟩;rw[←hxx] at hc hN;clear hxx;by_cases he:x=[]
   ·subst he;have hN2:aJ (xs=(ss.take (k+1)).filter fun x=>decide (x≠[])):=ax (by rw[hN.o,hC.o];simp);clear hN;(go_wp2_with fail)
    go_round
    case rel=>exact ⟨k+1,A,d,xs,by omega,by go_num,rfl,HO.o,hN2,HB.o⟩
    case measure=>simp[intOf];omega
   ·have hN2:aJ (xs++[x]=(ss.take (k+1)).filter fun x=>decide (x≠[])):=ax (by rw[hN.o,hC.o,if_neg he]);have heb:(x == [])=false:=by rw[bytes_eq];simpa using he
    clear hN;(go_wp2_with (at_builtin;refine appS rfl _ _ rfl (v:=.slice A xs.length d) rfl (StrsO.bz (w:=wr) HO.o bel) wr.heap.size x rfl (cell_box wr _ _) (by omega) (by simp;omega) ?_;intro g2 d2 w2 o2 hg2 hB2));have hBB:Below w1.heap.size w1 w2:=((HB.o.alloc hz _).trans hB2)
    go_round
    case rel=>exact ⟨k+1,some ⟨g2,0,none⟩,d2,xs++[x],by omega,by go_num,by simp,by simpa using o2,hN2,hBB⟩
    case measure=>simp[intOf];omega
  ·obtain rfl:k=ss.length:=by omega
   (go_wp2_with fail);go_ret;exact ⟨_,rfl,by rw[hW.o,←hC.o];exact HO.o.lower z1,bgo HW1.o HB.o⟩
theorem c_impl_isAddr (n:Int) (w:World):Calls Tryz.prog 222 #[.int .i64 n] w fun e w'=>e=.returned (.bool (addrB n))∧w=w':=by
 by_cases h:1≤n
 ·by_cases h2:n≤8
  all_goals
   (go_enter Tryz.func222,Tryz.ntmps222);go_wp2;go_ret;exact ⟨by simp[addrB,h,h2],rfl⟩
 ·(go_enter Tryz.func222,Tryz.ntmps222);go_wp2;go_ret;exact ⟨by simp[addrB];omega,rfl⟩
theorem c_impl_isValue (n:Int) (w:World):Calls Tryz.prog 175 #[.int .i64 n] w fun e w'=>e=.returned (.bool (valB n))∧w=w':=by
 by_cases h:0≤n
 ·by_cases h2:n≤8
  all_goals
   (go_enter Tryz.func175,Tryz.ntmps175);go_wp2;go_ret;exact ⟨by simp[valB,h,h2],rfl⟩
 ·(go_enter Tryz.func175,Tryz.ntmps175);go_wp2;go_ret;exact ⟨by simp[valB];omega,rfl⟩
theorem c_impl_content {lo hi:Nat} (v:Value) (s:Ste) (a:Int) (w:World) (h:StateV w lo hi v s) (h8:s.heap.length=8):Calls Tryz.prog 178 #[v,.int .i64 a] w fun e w'=>e=.returned (.int .i64 (cont s.heap a))∧Below w.heap.size w w':=by
 obtain ⟨A1,c1,A2,c2,rfl,h1,h2⟩:=h;cases ha:addrB a
 ·(go_enter Tryz.func178,Tryz.ntmps178);(go_wp2_with (go_at_call 222;refine (c_impl_isAddr _ _).mono ?_;rintro e w' ⟨rfl,rfl⟩));go_ret;exact ⟨ret_int (by simp[cont,ha]),bel⟩
 ·have ha':=ha;simp only[addrB,decide_eq_true_eq] at ha';obtain ⟨g1,g2⟩:=ha';obtain ⟨n,rfl⟩:∃ n:Nat,a=n+1:=⟨(a - 1).toNat,by omega⟩;have hn:n<s.heap.length:=by omega
  have h0:((n:Int)+1 - 1)=(n:Int):=by omega
  obtain ⟨b,off,rfl,c0⟩:=h2.at hn;have hbl:=block_lt_of_cell c0;have H8:=ax h8;have hlt:(n:Int)<(s.heap.length:Int):=by omega
  clear h8 g1;have hr:cont s.heap ((n:Int)+1)=s.heap[n]:=by simp[cont,ha,h0,List.getElem?_eq_getElem hn]
  have HR:=ax hr;clear hr;(go_enter Tryz.func178,Tryz.ntmps178);(go_wp2_with (go_at_call 222;refine (c_impl_isAddr _ _).mono ?_;rintro e w' ⟨rfl,rfl⟩));go_ret;exact ⟨ret_int HR.o.symm,bel⟩
theorem c_impl_allocated {lo hi:Nat} (v:Value) (s:Ste) (a:Int) (w:World) (h:StateV w lo hi v s) (h8:s.heap.length=8):Calls Tryz.prog 177 #[v,.int .i64 a] w fun e w'=>e=.returned (.bool (allocB s.heap a))∧Below w.heap.size w w':=by
 have h':=h;obtain ⟨A1,c1,A2,c2,rfl,h1,h2⟩:=h';have H8:=ax h8;clear h8;(go_enter Tryz.func177,Tryz.ntmps177);(go_wp2_with fail);refine (c_impl_content _ s a _ (h.bz bel) H8.o).mono ?_;rintro e w1 ⟨rfl,hB1⟩;(go_wp2_with fail);go_ret;exact ⟨ret_bool (by simp[allocB]),bgo (w:=w) bel hB1⟩
theorem c_impl_termValue {lo hi:Nat} (A:Option Addr) (c:Nat) (vs:List Int) (t:Int) (w:World) (h:IntsV w lo hi A vs) (h0:0≤t) (hl:t≤vs.length):Calls Tryz.prog 174 #[.slice A vs.length c,.int .i64 t] w fun e w'=>e=.returned (.int .i64 (tval vs t))∧w=w':=by
 have hL:=h.le;by_cases ht:t=0
 ·subst ht;(go_enter Tryz.func174,Tryz.ntmps174);go_wp2;go_ret;exact ⟨rfl,rfl⟩
 ·obtain ⟨n,rfl⟩:∃ n:Nat,t=n+1:=⟨(t - 1).toNat,by omega⟩;have hn:n<vs.length:=by omega
  have e0:((n:Int)+1 - 1)=(n:Int):=by omega
  obtain ⟨b,off,rfl,c0⟩:=h.at hn;have hlt:(n:Int)<(vs.length:Int):=by omega
  have HR:=ax (show tval vs ((n:Int)+1)=vs[n] by simp[tval,e0,List.getElem?_eq_getElem hn];omega);have ht':((n:Int)+1 == 0)=false:=by simpa using ht
  clear ht h0 hl;(go_enter Tryz.func174,Tryz.ntmps174);go_wp2;go_ret;exact ⟨ret_int HR.o.symm,rfl⟩
theorem c_impl_StateValid {lo hi:Nat} (v:Value) (s:Ste) (w:World) (h:StateV w lo hi v s):Calls Tryz.prog 107 #[v] w fun e w'=>e=.returned (.bool s.valid)∧Below w.heap.size w w':=by
 obtain ⟨A1,c1,A2,c2,rfl,h1,h2⟩:=h;have hl1:=h1.le;have hl2:=h2.le;by_cases e1:s.values.length=8
 ·by_cases e2:s.heap.length=8
  ·have t1:((s.values.length:Int) != 8)=false:=by simp[e1]
   have t2:((s.heap.length:Int) != 8)=false:=by simp[e2]
   have HV:aJ (s.valid=(s.values.all valB&&s.heap.all cellB)):=by simp[aJ,Ste.valid,e1,e2]
   clear e1 e2;(go_enter Tryz.func107,Tryz.ntmps107);go_wp2;clear t1 t2
   go_loop [20] (fun i=>∃ k:Nat,k≤s.values.length∧i=.int .i64 k∧aJ (s.values.all valB=(s.values.drop k).all valB)) (fun i=>s.values.length - (intOf i).toNat)
   case atStart=>exact ⟨0,Nat.zero_le _,rfl,by simp[aJ]⟩
   case round=>
    obtain ⟨k,hk,rfl,HA⟩:=hrel;by_cases hlt:k<s.values.length
    ·obtain ⟨b,off,rfl,c0⟩:=h1.at hlt;have hbl:=block_lt_of_cell c0;have HD:=ax (all_drop valB s.values k hlt);cases hc:valB s.values[k]
     ·(go_wp2_with (go_at_call 175;refine (c_impl_isValue _ _).mono ?_;rintro e w' ⟨rfl,rfl⟩));go_ret;exact ⟨ret_bool (by rw[HV.o,HA.o,HD.o,hc];rfl),bel⟩
     ·go_wp2_with (go_at_call 175;refine (c_impl_isValue _ _).mono ?_;rintro e w' ⟨rfl,rfl⟩)
      go_round
      case rel=>exact ⟨k+1,by omega,by go_num,by show _=_;rw[HA.o,HD.o,hc];rfl⟩
      case measure=>simp[intOf];omega
    ·obtain rfl:k=s.values.length:=by omega
     have HA2:aJ (s.valid=s.heap.all cellB):=by show _=_;rw[HV.o,HA.o,List.drop_length];rfl
     go_wp2
     go_loop [31] (fun i=>∃ k:Nat,k≤s.heap.length∧i=.int .i64 k∧aJ (s.heap.all cellB=(s.heap.drop k).all cellB)) (fun i=>s.heap.length - (intOf i).toNat)
     case atStart=>exact ⟨0,Nat.zero_le _,rfl,by simp[aJ]⟩
     case round=>
      clear HA;obtain ⟨k,hk,rfl,HA⟩:=hrel;by_cases hlt:k<s.heap.length
      ·obtain ⟨b,off,rfl,c0⟩:=h2.at hlt;have hbl:=block_lt_of_cell c0;have HD:=ax (all_drop cellB s.heap k hlt);cases hm:(s.heap[k] != -1)
       ·have hc:cellB s.heap[k]=true:=by simp[cellB];left;simpa using hm
        have HC:=ax hc;clear hc;(go_wp2_with (go_at_call 175;refine (c_impl_isValue _ _).mono ?_;rintro e w' ⟨rfl,rfl⟩))
        go_round
        case rel=>exact ⟨k+1,by omega,by go_num,by show _=_;rw[HA.o,HD.o,HC.o];rfl⟩
        case measure=>simp[intOf];omega
       ·have hne:s.heap[k]≠-1:=by simpa using hm
        have HC:aJ (cellB s.heap[k]=valB s.heap[k]):=by simp[aJ,cellB,hne]
        clear hne;cases hc:valB s.heap[k]
        ·(go_wp2_with (go_at_call 175;refine (c_impl_isValue _ _).mono ?_;rintro e w' ⟨rfl,rfl⟩));go_ret;exact ⟨ret_bool (by rw[HA2.o,HA.o,HD.o,HC.o,hc];rfl),bel⟩
        ·go_wp2_with (go_at_call 175;refine (c_impl_isValue _ _).mono ?_;rintro e w' ⟨rfl,rfl⟩)
         go_round
         case rel=>exact ⟨k+1,by omega,by go_num,by show _=_;rw[HA.o,HD.o,HC.o,hc];rfl⟩
         case measure=>simp[intOf];omega
      ·obtain rfl:k=s.heap.length:=by omega
       go_wp2;go_ret;exact ⟨ret_bool (by rw[HA2.o,HA.o,List.drop_length];rfl),bel⟩
  ·have t2:((s.heap.length:Int) != 8)=true:=by simp;omega
   have HV:aJ (s.valid=false):=by simp[aJ,Ste.valid,e2]
   clear e2;have t1:((s.values.length:Int) != 8)=false:=by simp[e1]
   clear e1;(go_enter Tryz.func107,Tryz.ntmps107);go_wp2;go_ret;exact ⟨ret_bool HV.o.symm,bel⟩
 ·have t1:((s.values.length:Int) != 8)=true:=by simp;omega
  have HV:aJ (s.valid=false):=by simp[aJ,Ste.valid,e1]
  clear e1;(go_enter Tryz.func107,Tryz.ntmps107);go_wp2;go_ret;exact ⟨ret_bool HV.o.symm,bel⟩
end
section
open Go Go.RowKit
def swp (x y t:Int):Int:=if t=x then y else t
def Fct.sub (x y:Int) (f:Fct):Fct:=⟨f.eq,swp x y f.a,swp x y f.b⟩
def Atm.sub (x y:Int) (f:Atm):Atm:=⟨f.kind,swp x y f.a,swp x y f.b⟩
def substA (x y:Int) (a:Asn):Asn:=⟨a.facts.map (Fct.sub x y),a.atoms.map (Atm.sub x y)⟩
def upto {α:Type} (f:α→α) (k:Nat) (L:List α):List α:=(L.map f).take k++L.drop k
theorem upto_length {α:Type} (f:α→α) (k:Nat) (L:List α):(upto f k L).length=L.length:=by simp[upto];omega
theorem upto_zero {α:Type} (f:α→α) (L:List α):upto f 0 L=L:=by simp[upto]
theorem upto_full {α:Type} (f:α→α) (L:List α):upto f L.length L=L.map f:=by simp[upto,List.take_of_length_le]
theorem upto_get {α:Type} (f:α→α) (k:Nat) (L:List α) (h:k<L.length):(upto f k L)[k]'(by rw[upto_length];exact h)=L[k]:=by
 have:(upto f k L)[k]? = some L[k]:=by
  rw[upto,List.getElem?_append_right (by simp;omega)];simp[show min k L.length=k from by omega,List.getElem?_eq_getElem h]
 rw[List.getElem?_eq_getElem (by rw[upto_length];exact h)] at this;exact Option.some.inj this
theorem upto_set {α:Type} (f:α→α) (k:Nat) (L:List α) (h:k<L.length):(upto f k L).set k (f L[k])=upto f (k+1) L:=by
 apply List.ext_getElem?;intro j;simp only[upto,List.getElem?_set,List.getElem?_append,List.getElem?_take,List.getElem?_map,List.getElem?_drop,List.length_append,List.length_take,List.length_map,List.length_drop];have e1:min k L.length=k:=by omega
 have e2:min (k+1) L.length=k+1:=by omega
 rw[e1,e2];by_cases hj:k=j
 ·subst hj;rw[if_pos rfl,if_pos (by omega),if_pos (by omega),if_pos (by omega),List.getElem?_eq_getElem h];rfl
 ·rw[if_neg hj];by_cases h1:j<k
  ·rw[if_pos h1,if_pos h1,if_pos (by omega),if_pos (by omega)]
  ·rw[if_neg h1,if_neg (by omega),show k+(j - k)=j from by omega,show k+1+(j - (k+1))=j from by omega]
def logB (t:Int):Bool:=decide (4<t∧t≤8)
def free (K:Nat) (t:Int):Bool:=logB t && !K.testBit t.toNat
def left (K:Nat) (a:Asn):List Nat:=(List.range 9).filter fun n=>free K (n:Int)&&decide ((n:Int)∈termsL a)
theorem termsL_facts {a:Asn} {f:Fct} (h:f∈a.facts):f.a∈termsL a∧f.b∈termsL a:=by
 simp only[termsL,List.mem_append,List.mem_flatMap];exact ⟨Or.inl ⟨f,h,by simp[factT]⟩,Or.inl ⟨f,h,by simp[factT]⟩⟩
def nfF (f:Fct):Fct:=if f.b<f.a then ⟨f.eq,f.b,f.a⟩ else f
def nfStep (acc:List Fct) (f:Fct):List Fct:=if f.eq&&(f.a == f.b) then acc else if acc.contains (nfF f) then acc else acc++[nfF f]
def nfA (x:Atm):Bool:=x.kind != 2 || x.a != x.b
def normalF (a:Asn):Asn:=⟨a.facts.foldl nfStep [],a.atoms.filter nfA⟩
theorem sub_valid {x y:Int} {a:Asn} (h:a.valid=true) (hy:isTermB y=true):(substA x y a).valid=true:=by
 simp only[Asn.valid,factsValid,substA,Bool.and_eq_true,decide_eq_true_eq,List.length_map,List.all_map] at h ⊢
 have hs:∀ t,isTermB t=true→isTermB (swp x y t)=true:=fun t ht=>by
  unfold swp
  split
  ·exact hy
  ·exact ht
 refine ⟨⟨h.1.1,?_⟩,h.2.1,?_⟩
 ·have:=h.1.2;rw[List.all_eq_true] at this ⊢;intro f hf;have:=this f hf;simp only[Fct.valid,Bool.and_eq_true,Function.comp,Fct.sub] at this ⊢;exact ⟨hs _ this.1,hs _ this.2⟩
 ·have:=h.2.2;rw[List.all_eq_true] at this ⊢;intro f hf;have:=this f hf;simp only[Atm.valid,Bool.and_eq_true,Function.comp,Atm.sub] at this ⊢;exact ⟨⟨this.1.1,hs _ this.1.2⟩,hs _ this.2⟩
end
section
open Go Go.RowKit Go.Proofs
theorem wp_appX {P:Program} {o:Oper} {a:Act} {K:Act→World→Prop} {Q:Exit→Act→World→Prop} {w:World} (s x:Operand) (t:TypeId)
  (ho:o.op=.call { callee:=.builtin .append,args:=#[s,x],argTypes:=#[t,t] })
  {base:Nat} {e:TypeId} {z:Value} {size bytes:Nat} (ht:P.underlying t=some (.slice e)) (hinfo:(P.info? e).map (fun i=>(i.zero,i.size,i.bytes))=some (some z,size,bytes)) (hzs:z.cells.size=size) (hsz:0<size) (hby:bytes≤200)
  {v:Value} {n:Nat} {xs:List Value} (hs:a.eval s=v) (hown:w.ownsRow base e size v n xs)
  {ad:Addr} {m c:Nat} {news:List Value} (hx:a.eval x=.slice (some ad) m c) (hl:news.length=m * size) (hnews:∀ j u,news[j]? = some u→w.cell? (ad.add j)=some u) (h1:∀ u∈news,u.oneCell'=true)
  (hn:n+m≤1049600) (hb:base≤w.heap.size)
  (h:∀ v' w',w'.ownsRow base e size v' (n+m) (xs++news)→w.grownBy w' v.ownBlock→Below base w w'→(v'.ownBlock=v.ownBlock∨v'.ownBlock=some w.heap.size)→K (a.put o.dst v') w'):Oper.wp P o a w K Q:=by
 obtain ⟨i,hi',hz,hsize,hbytes⟩:=info_parts hinfo;obtain ⟨v',w',hr,h2,h3,h4,h5⟩:=run_append_own_at (P:=P) w base t o.type e i z size bytes ht hi' hz hsize hbytes hzs hsz v n xs hown ad m c news hl hnews h1 (by unfold maxLen;omega) (Nat.le_trans (Nat.mul_le_mul hn hby) (by omega)) hb;unfold Oper.wp execOp;simp only[ho,resolve,invoke,builtin,Sem.run_bind,Sem.run_pure,Result.andThen_ok,List.map_toArray,List.map_cons,List.map_nil,hs,hx,hr];exact h v' w' h2 h3 (own_row_below hown h3 hb) h5
section
variable {ops:Array Oper} {rest:List Oper} {o:Oper} {a:Act} {K:Act→World→Prop} {Q:Exit→Act→World→Prop} {E:Prop} {w:World} {base:Nat} {v:Value}
end
theorem wp_appLX {P:Program} {o:Oper} {a:Act} {K:Act→World→Prop} {Q:Exit→Act→World→Prop} {w:World} (s x:Operand) (t:TypeId)
  (ho:o.op=.call { callee:=.builtin .append,args:=#[s,x],argTypes:=#[t,t] })
  {base:Nat} {e:TypeId} {z:Value} {size bytes:Nat} (ht:P.underlying t=some (.slice e)) (hinfo:(P.info? e).map (fun i=>(i.zero,i.size,i.bytes))=some (some z,size,bytes)) (hzs:z.cells.size=size) (hsz:0<size) (hby:bytes≤200)
  {v:Value} {n:Nat} {xs:List Value} (hs:a.eval s=v) (hown:w.ownsRow base e size v n xs)
  {A:Option Addr} {m c lo hi:Nat} {news:List Value} (hx:a.eval x=.slice A m c) (hR:Rw w lo hi size A m news) (h1:∀ u∈news,u.oneCell'=true)
  (hn:n+m≤1049600) (hb:base≤w.heap.size)
  (h:∀ v' w',w'.ownsRow base e size v' (n+m) (xs++news)→w.grownBy w' v.ownBlock→Below base w w'→(v'.ownBlock=v.ownBlock∨v'.ownBlock=some w.heap.size)→K (a.put o.dst v') w'):Oper.wp P o a w K Q:=by
 obtain ⟨i,hi',hz,hsize,hbytes⟩:=info_parts hinfo
 have key:∀ (ad:Addr),A=some ad→(∀ j u,news[j]? = some u→w.cell? (ad.add j)=some u)→Oper.wp P o a w K Q:=by
  rintro ad rfl hnews;obtain ⟨v',w',hr,h2,h3,h4,h5⟩:=run_append_own_at (P:=P) w base t o.type e i z size bytes ht hi' hz hsize hbytes hzs hsz v n xs hown ad m c news hR.1 hnews h1 (by unfold maxLen;omega) (Nat.le_trans (Nat.mul_le_mul hn hby) (by omega)) hb;unfold Oper.wp execOp;simp only[ho,resolve,invoke,builtin,Sem.run_bind,Sem.run_pure,Result.andThen_ok,List.map_toArray,List.map_cons,List.map_nil,hs,hx,hr];exact h v' w' h2 h3 (own_row_below hown h3 hb) h5
 by_cases hm:m=0
 ·subst hm;have hnil:news=[]:=List.eq_nil_of_length_eq_zero (by simpa using hR.1);subst hnil
  cases A with
  | some ad=>exact key ad rfl (by simp)
  | none=>
   have hrun:=run_append_none (P:=P) t o.type i ht hi' v n c xs hown;unfold Oper.wp execOp;simp only[ho,resolve,invoke,builtin,Sem.run_bind,Sem.run_pure,Result.andThen_ok,List.map_toArray,List.map_cons,List.map_nil,hs,hx,hrun];exact h v w (by simpa using hown) (World.grownBy.refl _ _) (Below.refl _ _) (Or.inl rfl)
 ·have h0:0<m * size:=Nat.mul_pos (by omega) hsz;obtain ⟨b,off,rfl,_,_,hc⟩:=hR.2 h0;exact key _ rfl fun j u hu=>by rw[show (⟨b,off,none⟩:Addr).add j=⟨b,off+j,none⟩ from by unfold Addr.add;split<;>simp_all];exact hc j u hu
theorem IntsO.grown {w w':World} {b:Nat} {v v':Value} {xs:List Int} (h:IntsO w b v' xs) (hg:w.grownBy w' v.ownBlock) (hne:∀ g,v'.ownBlock=some g→v.ownBlock≠some g):IntsO w' b v' xs:=by
 obtain ⟨⟨h1,h2⟩,h3⟩:=h;refine ⟨⟨h1,?_⟩,h3⟩;rcases h2 with h2|⟨k,cap,cur,hv,hk,hh,r⟩
 ·exact Or.inl h2
 ·exact Or.inr ⟨k,cap,cur,hv,hk,Blk.grown hh hg (fun e=>hne k (by rw[hv];rfl) e.symm),r⟩
def tlistL (S k:Nat):List Int:=((List.range k).filter fun n=>S.testBit n).map fun n:Nat=>(n:Int)
theorem tlistL_succ (S k:Nat):tlistL S (k+1)=tlistL S k++if S.testBit k then [(k:Int)] else []:=by
 unfold tlistL;rw[List.range_succ,List.filter_append,List.map_append];cases h:S.testBit k<;>simp[h]
theorem tlistL_length (S k:Nat):(tlistL S k).length≤k:=by
 unfold tlistL;rw[List.length_map];exact Nat.le_trans (List.length_filter_le _ _) (by simp)
theorem c_impl_termList (S:Nat) (w:World) (hS:S<512):Calls Tryz.prog 104 #[.int .u16 S] w fun e w'=>∃ r,e=.returned r∧IntsO w' w.heap.size r (tlistL S 9)∧Below w.heap.size w w':=by
 have HS:=ax hS;clear hS;(go_enter Tryz.func104,Tryz.ntmps104);go_wp2
 go_loopw [3,4] (fun o i wr=>∃ (k:Nat) (A:Option Addr) (c:Nat),k≤9∧i=.int .i64 k∧o=.slice A (tlistL S k).length c∧IntsO wr w.heap.size (.slice A (tlistL S k).length c) (tlistL S k)∧Below w.heap.size w wr) (fun _ i _=>9 - (intOf i).toNat)
 case atStart=>exact ⟨0,none,0,by omega,rfl,rfl,IntsO.nil _ _,bel⟩
 case round=>
  obtain ⟨k,A,c,hk,rfl,rfl,hO,hB⟩:=hrel;have hlen:=tlistL_length S k;by_cases h8:k<9
  ·have hv:isTermB (k:Int)=true:=isTermB_iff.2 (by omega);have HC:=ax (tlistL_succ S k);have hki:(k:Int)≤8:=by omega
   cases ht:S.testBit k
   ·(go_wp2_with fail);refine (c_impl_tHas S _ _ HS.o).mono ?_;rintro e w' ⟨rfl,rfl⟩;rw[hv,Int.toNat_natCast,ht];(go_wp2_with fail)
    go_round
    case rel=>
     have e:tlistL S (k+1)=tlistL S k:=by rw[HC.o,ht];simp
     exact ⟨k+1,A,c,by omega,by go_num,by rw[e],by rw[e];exact hO,hB⟩
    case measure=>simp[intOf];omega
   ·(go_wp2_with fail);refine (c_impl_tHas S _ _ HS.o).mono ?_;rintro e w' ⟨rfl,rfl⟩;rw[hv,Int.toNat_natCast,ht];(go_wp2_with (at_builtin;refine appI rfl _ _ rfl (v:=.slice A (tlistL S k).length c) rfl (hO.abv (Abv.alloc (Abv.refl 0 _) _) (Nat.zero_le _)) wr.heap.size _ rfl (cell_box wr _ _) (by omega) (by simp;have:=hB.size;omega) ?_;intro g' c' w2 hO2 hg2 hB3))
    go_round
    case rel=>
     have e:tlistL S (k+1)=tlistL S k++[(k:Int)]:=by rw[HC.o,ht];simp
     exact ⟨k+1,some ⟨g',0,none⟩,c',by omega,by go_num,by rw[e,List.length_append];rfl,by rw[e];simpa using hO2,Below.trans (bbox hB _) hB3⟩
    case measure=>simp[intOf];omega
  ·obtain rfl:k=9:=by omega
   go_wp2;go_ret;exact ⟨_,rfl,hO,hB⟩
end
end Go.Proofs.YtgdfdmjnadnlnaaGreat
