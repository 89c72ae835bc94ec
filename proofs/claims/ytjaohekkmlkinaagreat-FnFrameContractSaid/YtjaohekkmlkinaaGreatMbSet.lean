/- append of a whole list; joined lists. -/
import Derived.Test.YtjaohekkmlkinaaGreatMbApp
import Derived.Test.YtjaohekkmlkinaaGreatMbVal
import Derived.Deep.RegionHeld3
import Derived.Maps.AppendAt
set_option linter.unusedSimpArgs false
set_option linter.unusedVariables false
set_option maxRecDepth 100000
set_option maxHeartbeats 25600000
namespace Go.Proofs.YtjaohekkmlkinaaGreat
section
open Go Go.RowKit Go.Proofs
section
variable {P:Program} {w:World} {base:Nat} {e:TypeId} {size:Nat}
theorem run_append_none (t ty:TypeId) (i:TypeInfo) (ht:P.underlying t=some (.slice e)) (hi:P.info? e=some i)
  (v:Value) (n c:Nat) (xs:List Value) (hown:w.ownsRow base e size v n xs) :
  (Builtin.append_ #[t,t] ty #[v,.slice none 0 c]).run P w=.ok v w:=by
 rcases hown.2 with ⟨rfl,rfl⟩|⟨g,cap,cur,rfl,_,_,hnc,_⟩
 ·simp[Builtin.append_,run_underlying ht,sizeOf,typeInfo,hi,Builtin.lenOf,Builtin.firstCells]
 ·simp[Builtin.append_,run_underlying ht,sizeOf,typeInfo,hi,Builtin.lenOf,Builtin.firstCells,hnc,storeCells]
end
theorem wpList_appL {P:Program} {ops:Array Oper} {rest:List Oper} {o:Oper} {a:Act} {Q:Exit→Act→World→Prop} {w:World} (hgd:o.guard=none) (s x:Operand) (t:TypeId)
  (ho:o.op=.call { callee:=.builtin .append,args:=#[s,x],argTypes:=#[t,t] })
  {base:Nat} {e:TypeId} {z:Value} {size bytes:Nat} (ht:P.underlying t=some (.slice e)) (hinfo:(P.info? e).map (fun i=>(i.zero,i.size,i.bytes))=some (some z,size,bytes)) (hzs:z.cells.size=size) (hsz:0<size) (hby:bytes≤200)
  {v:Value} {n:Nat} {xs:List Value} (hs:a.eval s=v) (hown:w.ownsRow base e size v n xs)
  {A:Option Addr} {m c lo hi:Nat} {news:List Value} (hx:a.eval x=.slice A m c) (hR:Rw w lo hi size A m news) (h1:∀ u∈news,u.oneCell'=true)
  (hn:n+m≤1049600) (hb:base≤w.heap.size)
  (h:∀ v' w',w'.ownsRow base e size v' (n+m) (xs++news)→w.grownBy w' v.ownBlock→Below base w w'→wpList P ops Q rest (a.put o.dst v') w'):wpList P ops Q (o :: rest) a w:=by
 obtain ⟨i,hi',hz,hsize,hbytes⟩:=info_parts hinfo
 have key:∀ (ad:Addr),A=some ad→(∀ j u,news[j]? = some u→w.cell? (ad.add j)=some u)→wpList P ops Q (o :: rest) a w:=by
  rintro ad rfl hnews;refine wpList_append_own w hgd s x t ho base e i z size bytes ht hi' hz hsize hbytes hzs hsz v n xs hs hown ad m c news hx hR.1 hnews h1 (by unfold maxLen;omega) (Nat.le_trans (Nat.mul_le_mul hn hby) (by omega)) hb ?_;intro v' w' ho' hg' _;exact h v' w' ho' hg' (own_row_below hown hg' hb)
 by_cases hm:m=0
 ·subst hm;have hnil:news=[]:=List.eq_nil_of_length_eq_zero (by simpa using hR.1);subst hnil
  cases A with
  | some ad=>exact key ad rfl (by simp)
  | none=>
   refine wpList_plain hgd fun K hK=>?_;have hrun:=run_append_none (P:=P) t o.type i ht hi' v n c xs hown;unfold Oper.wp;simp[execOp,ho,resolve,invoke,builtin,hs,hx,hrun,Result.andThen];exact hK _ _ (h v w (by simpa using hown) (World.grownBy.refl _ _) (Below.refl _ _))
 ·have h0:0<m * size:=Nat.mul_pos (by omega) hsz;obtain ⟨b,off,rfl,_,_,hc⟩:=hR.2 h0;exact key _ rfl fun j u hu=>by rw[show (⟨b,off,none⟩:Addr).add j=⟨b,off+j,none⟩ from by unfold Addr.add;split<;>simp_all];exact hc j u hu
theorem wp_appL {P:Program} {o:Oper} {a:Act} {K:Act→World→Prop} {Q:Exit→Act→World→Prop} {w:World} (s x:Operand) (t:TypeId)
  (ho:o.op=.call { callee:=.builtin .append,args:=#[s,x],argTypes:=#[t,t] })
  {base:Nat} {e:TypeId} {z:Value} {size bytes:Nat} (ht:P.underlying t=some (.slice e)) (hinfo:(P.info? e).map (fun i=>(i.zero,i.size,i.bytes))=some (some z,size,bytes)) (hzs:z.cells.size=size) (hsz:0<size) (hby:bytes≤200)
  {v:Value} {n:Nat} {xs:List Value} (hs:a.eval s=v) (hown:w.ownsRow base e size v n xs)
  {A:Option Addr} {m c lo hi:Nat} {news:List Value} (hx:a.eval x=.slice A m c) (hR:Rw w lo hi size A m news) (h1:∀ u∈news,u.oneCell'=true)
  (hn:n+m≤1049600) (hb:base≤w.heap.size)
  (h:∀ v' w',w'.ownsRow base e size v' (n+m) (xs++news)→w.grownBy w' v.ownBlock→Below base w w'→K (a.put o.dst v') w'):Oper.wp P o a w K Q:=by
 obtain ⟨i,hi',hz,hsize,hbytes⟩:=info_parts hinfo
 have key:∀ (ad:Addr),A=some ad→(∀ j u,news[j]? = some u→w.cell? (ad.add j)=some u)→Oper.wp P o a w K Q:=by
  rintro ad rfl hnews;obtain ⟨v',w',hr,h2,h3,h4,h5⟩:=run_append_own_at (P:=P) w base t o.type e i z size bytes ht hi' hz hsize hbytes hzs hsz v n xs hown ad m c news hR.1 hnews h1 (by unfold maxLen;omega) (Nat.le_trans (Nat.mul_le_mul hn hby) (by omega)) hb;unfold Oper.wp execOp;simp only[ho,resolve,invoke,builtin,Sem.run_bind,Sem.run_pure,Result.andThen_ok,List.map_toArray,List.map_cons,List.map_nil,hs,hx,hr];exact h v' w' h2 h3 (own_row_below hown h3 hb)
 by_cases hm:m=0
 ·subst hm;have hnil:news=[]:=List.eq_nil_of_length_eq_zero (by simpa using hR.1);subst hnil
  cases A with
  | some ad=>exact key ad rfl (by simp)
  | none=>
   have hrun:=run_append_none (P:=P) t o.type i ht hi' v n c xs hown;unfold Oper.wp execOp;simp only[ho,resolve,invoke,builtin,Sem.run_bind,Sem.run_pure,Result.andThen_ok,List.map_toArray,List.map_cons,List.map_nil,hs,hx,hrun];exact h v w (by simpa using hown) (World.grownBy.refl _ _) (Below.refl _ _)
 ·have h0:0<m * size:=Nat.mul_pos (by omega) hsz;obtain ⟨b,off,rfl,_,_,hc⟩:=hR.2 h0;exact key _ rfl fun j u hu=>by rw[show (⟨b,off,none⟩:Addr).add j=⟨b,off+j,none⟩ from by unfold Addr.add;split<;>simp_all];exact hc j u hu
theorem encF_one (fs:List Fct):∀ u∈encF fs,u.oneCell'=true:=by
 intro u hu;simp only[encF,List.mem_flatMap] at hu;obtain ⟨f,_,hf⟩:=hu;simp at hf;rcases hf with rfl|rfl|rfl<;>simp[Value.oneCell']
theorem encA_one (fs:List Atm):∀ u∈encA fs,u.oneCell'=true:=by
 intro u hu;simp only[encA,List.mem_flatMap] at hu;obtain ⟨f,_,hf⟩:=hu;simp at hf;rcases hf with rfl|rfl|rfl<;>simp[Value.oneCell']
theorem encI_one (fs:List Int):∀ u∈encI fs,u.oneCell'=true:=by
 intro u hu;simp only[encI,List.mem_map] at hu;obtain ⟨f,_,rfl⟩:=hu;simp[Value.oneCell']
section
variable {ops:Array Oper} {rest:List Oper} {o:Oper} {a:Act} {Q:Exit→Act→World→Prop} {w:World} {base lo hi c:Nat} {v:Value} {A:Option Addr}
theorem appFL (hgd:o.guard=none) (s x:Operand) (ho:o.op=.call { callee:=.builtin .append,args:=#[s,x],argTypes:=#[34,34] })
  {xs ys:List Fct} (hs:a.eval s=v) (hown:FactsO w base v xs) (hx:a.eval x=.slice A ys.length c) (hR:FactsV w lo hi A ys) (hn:xs.length+ys.length≤1049600) (hb:base≤w.heap.size)
  (h:∀ A' c' w',FactsO w' base (.slice A' (xs++ys).length c') (xs++ys)→w.grownBy w' v.ownBlock→Below base w w'→wpList Tryz.prog ops Q rest (a.put o.dst (.slice A' (xs++ys).length c')) w'):wpList Tryz.prog ops Q (o :: rest) a w:=by
 refine wpList_appL hgd s x 34 ho Tryz.underlying34 infoF rfl (by decide) (by decide) hs hown.1 hx hR.raw (encF_one _) hn hb ?_;intro v' w' h1 h2 h3;have hO:FactsO w' base v' (xs++ys):=⟨by rw[List.length_append,show encF (xs++ys)=encF xs++encF ys from List.flatMap_append];exact h1,by simp[Lim];omega⟩;obtain ⟨A',c',rfl,-⟩:=hO.rj;exact h A' c' w' hO h2 h3
theorem appAL (hgd:o.guard=none) (s x:Operand) (ho:o.op=.call { callee:=.builtin .append,args:=#[s,x],argTypes:=#[35,35] })
  {xs ys:List Atm} (hs:a.eval s=v) (hown:AtomsO w base v xs) (hx:a.eval x=.slice A ys.length c) (hR:AtomsV w lo hi A ys) (hn:xs.length+ys.length≤1049600) (hb:base≤w.heap.size)
  (h:∀ A' c' w',AtomsO w' base (.slice A' (xs++ys).length c') (xs++ys)→w.grownBy w' v.ownBlock→Below base w w'→wpList Tryz.prog ops Q rest (a.put o.dst (.slice A' (xs++ys).length c')) w'):wpList Tryz.prog ops Q (o :: rest) a w:=by
 refine wpList_appL hgd s x 35 ho Tryz.underlying35 infoA rfl (by decide) (by decide) hs hown.1 hx hR.raw (encA_one _) hn hb ?_;intro v' w' h1 h2 h3;have hO:AtomsO w' base v' (xs++ys):=⟨by rw[List.length_append,show encA (xs++ys)=encA xs++encA ys from List.flatMap_append];exact h1,by simp[Lim];omega⟩;obtain ⟨A',c',rfl,-⟩:=hO.rj;exact h A' c' w' hO h2 h3
theorem appIL (hgd:o.guard=none) (s x:Operand) (ho:o.op=.call { callee:=.builtin .append,args:=#[s,x],argTypes:=#[31,31] })
  {xs ys:List Int} (hs:a.eval s=v) (hown:IntsO w base v xs) (hx:a.eval x=.slice A ys.length c) (hR:IntsV w lo hi A ys) (hn:xs.length+ys.length≤1049600) (hb:base≤w.heap.size)
  (h:∀ A' c' w',IntsO w' base (.slice A' (xs++ys).length c') (xs++ys)→w.grownBy w' v.ownBlock→Below base w w'→wpList Tryz.prog ops Q rest (a.put o.dst (.slice A' (xs++ys).length c')) w'):wpList Tryz.prog ops Q (o :: rest) a w:=by
 refine wpList_appL hgd s x 31 ho Tryz.underlying31 infoI rfl (by decide) (by decide) hs hown.1 hx hR.raw (encI_one _) hn hb ?_;intro v' w' h1 h2 h3;have hO:IntsO w' base v' (xs++ys):=⟨by rw[List.length_append,show encI (xs++ys)=encI xs++encI ys from List.map_append];exact h1,by simp[Lim];omega⟩;obtain ⟨A',c',rfl,-⟩:=hO.rj;exact h A' c' w' hO h2 h3
end
section
variable {ops:Array Oper} {o:Oper} {a:Act} {K:Act→World→Prop} {Q:Exit→Act→World→Prop} {E:Prop} {w:World} {base lo hi c:Nat} {v:Value} {A:Option Addr}
theorem stepFL (hgd:o.guard=none) (s x:Operand) (ho:o.op=.call { callee:=.builtin .append,args:=#[s,x],argTypes:=#[34,34] })
  {xs ys:List Fct} (hs:a.eval s=v) (hown:FactsO w base v xs) (hx:a.eval x=.slice A ys.length c) (hR:FactsV w lo hi A ys) (hn:xs.length+ys.length≤1049600) (hb:base≤w.heap.size)
  (h:∀ A' c' w',FactsO w' base (.slice A' (xs++ys).length c') (xs++ys)→w.grownBy w' v.ownBlock→Below base w w'→K (a.put o.dst (.slice A' (xs++ys).length c')) w'):if Region.wanted o (yielded ops a.tmps)=true then Oper.wp Tryz.prog o a w K Q else E:=by
 have hw:Region.wanted o (yielded ops a.tmps)=true:=by simp[Region.wanted,hgd]
 rw[if_pos hw];refine wp_appL s x 34 ho Tryz.underlying34 infoF rfl (by decide) (by decide) hs hown.1 hx hR.raw (encF_one _) hn hb ?_;intro v' w' h1 h2 h3;have hO:FactsO w' base v' (xs++ys):=⟨by rw[List.length_append,show encF (xs++ys)=encF xs++encF ys from List.flatMap_append];exact h1,by simp[Lim];omega⟩;obtain ⟨A',c',rfl,-⟩:=hO.rj;exact h A' c' w' hO h2 h3
theorem stepAL (hgd:o.guard=none) (s x:Operand) (ho:o.op=.call { callee:=.builtin .append,args:=#[s,x],argTypes:=#[35,35] })
  {xs ys:List Atm} (hs:a.eval s=v) (hown:AtomsO w base v xs) (hx:a.eval x=.slice A ys.length c) (hR:AtomsV w lo hi A ys) (hn:xs.length+ys.length≤1049600) (hb:base≤w.heap.size)
  (h:∀ A' c' w',AtomsO w' base (.slice A' (xs++ys).length c') (xs++ys)→w.grownBy w' v.ownBlock→Below base w w'→K (a.put o.dst (.slice A' (xs++ys).length c')) w'):if Region.wanted o (yielded ops a.tmps)=true then Oper.wp Tryz.prog o a w K Q else E:=by
 have hw:Region.wanted o (yielded ops a.tmps)=true:=by simp[Region.wanted,hgd]
 rw[if_pos hw];refine wp_appL s x 35 ho Tryz.underlying35 infoA rfl (by decide) (by decide) hs hown.1 hx hR.raw (encA_one _) hn hb ?_;intro v' w' h1 h2 h3;have hO:AtomsO w' base v' (xs++ys):=⟨by rw[List.length_append,show encA (xs++ys)=encA xs++encA ys from List.flatMap_append];exact h1,by simp[Lim];omega⟩;obtain ⟨A',c',rfl,-⟩:=hO.rj;exact h A' c' w' hO h2 h3
end
theorem mkF0 (n:Nat) (h:Lim n) (w:World):(Instr.makeSlice 34 (.int .i64 0) (.int .i64 (n:Int))).run Tryz.prog w=.ok (.slice (some ⟨w.heap.size,0,none⟩) 0 n) (w.alloc (.cells (madeCells #[.bool false,.int .i64 0,.int .i64 0] (n * 3)) tF)):=by
 obtain ⟨i,hi,hz,hs,hb⟩:=info_parts infoF;have:=run_make_rowN (P:=Tryz.prog) 34 tF i _ Tryz.underlying34 hi hz .i64 .i64 0 n (Nat.zero_le _) (by rw[hb];unfold Lim at h;omega) (by unfold Lim at h;omega) w
 rwa [hs] at this
theorem mkA0 (n:Nat) (h:Lim n) (w:World):(Instr.makeSlice 35 (.int .i64 0) (.int .i64 (n:Int))).run Tryz.prog w=.ok (.slice (some ⟨w.heap.size,0,none⟩) 0 n) (w.alloc (.cells (madeCells #[.int .i64 0,.int .i64 0,.int .i64 0] (n * 3)) tA)):=by
 obtain ⟨i,hi,hz,hs,hb⟩:=info_parts infoA;have:=run_make_rowN (P:=Tryz.prog) 35 tA i _ Tryz.underlying35 hi hz .i64 .i64 0 n (Nat.zero_le _) (by rw[hb];unfold Lim at h;omega) (by unfold Lim at h;omega) w
 rwa [hs] at this
theorem FactsO.made (w:World) (n:Nat) (h:n≤1049600):FactsO (w.alloc (.cells (madeCells #[.bool false,.int .i64 0,.int .i64 0] (n * 3)) tF)) w.heap.size (.slice (some ⟨w.heap.size,0,none⟩) 0 n) []:=
 ⟨World.ownsRow_made w _ n (Nat.le_refl _) (by unfold maxLen;omega) (by rw[size_madeCells]),by simp[Lim]⟩
theorem AtomsO.made (w:World) (n:Nat) (h:n≤1049600):AtomsO (w.alloc (.cells (madeCells #[.int .i64 0,.int .i64 0,.int .i64 0] (n * 3)) tA)) w.heap.size (.slice (some ⟨w.heap.size,0,none⟩) 0 n) []:=
 ⟨World.ownsRow_made w _ n (Nat.le_refl _) (by unfold maxLen;omega) (by rw[size_madeCells]),by simp[Lim]⟩
theorem FactsO.empty (w:World):FactsO (w.alloc (.cells #[] tF)) w.heap.size (.slice (some ⟨w.heap.size,0,none⟩) 0 0) []:=⟨own_empty w _ _,by simp[Lim]⟩
theorem AtomsO.empty (w:World):AtomsO (w.alloc (.cells #[] tA)) w.heap.size (.slice (some ⟨w.heap.size,0,none⟩) 0 0) []:=⟨own_empty w _ _,by simp[Lim]⟩
theorem FactsO.nil (w:World) (base:Nat):FactsO w base (.slice none 0 0) []:=⟨World.ownsRow_nil _ _ _ _,by simp[Lim]⟩
theorem AtomsO.nil (w:World) (base:Nat):AtomsO w base (.slice none 0 0) []:=⟨World.ownsRow_nil _ _ _ _,by simp[Lim]⟩
theorem c_joinF {lo hi lo' hi':Nat} (A A':Option Addr) (c c':Nat) (fs gs:List Fct) (w:World) (h:FactsV w lo hi A fs) (h':FactsV w lo' hi' A' gs) (hn:fs.length+gs.length≤1049600) :
  Calls Tryz.prog 111 #[.slice A fs.length c,.slice A' gs.length c'] w fun e w'=>∃ r,e=.returned r∧FactsO w' w.heap.size r (fs++gs)∧Below w.heap.size w w':=by
 have hmk:=mkF0 (fs.length+gs.length) hn;simp only[Int.natCast_add] at hmk;have hO0:=ax (FactsO.made w (fs.length+gs.length) hn);(go_enter Tryz.func111,Tryz.ntmps111)
 go_wp2_with (first
  | (at_builtin;refine appFL rfl _ _ rfl rfl hO0.o rfl (h.bz bel) (by simp;omega) (by simp) ?_;intro A1 d1 w1 hO1 hg1 hB1;have hB:Below w.heap.size w w1:=Below.trans bel hB1)
  | (at_builtin;refine appFL rfl _ _ rfl rfl hO1 rfl (h'.bz hB) (by simp;omega) hB.size ?_;intro A2 d2 w2 hO2 hg2 hB2))
 go_ret;exact ⟨_,rfl,by simpa using hO2,hB.trans hB2⟩
theorem c_joinA {lo hi lo' hi':Nat} (A A':Option Addr) (c c':Nat) (fs gs:List Atm) (w:World) (h:AtomsV w lo hi A fs) (h':AtomsV w lo' hi' A' gs) (hn:fs.length+gs.length≤1049600) :
  Calls Tryz.prog 112 #[.slice A fs.length c,.slice A' gs.length c'] w fun e w'=>∃ r,e=.returned r∧AtomsO w' w.heap.size r (fs++gs)∧Below w.heap.size w w':=by
 have hmk:=mkA0 (fs.length+gs.length) hn;simp only[Int.natCast_add] at hmk;have hO0:=ax (AtomsO.made w (fs.length+gs.length) hn);(go_enter Tryz.func112,Tryz.ntmps112)
 go_wp2_with (first
  | (at_builtin;refine appAL rfl _ _ rfl rfl hO0.o rfl (h.bz bel) (by simp;omega) (by simp) ?_;intro A1 d1 w1 hO1 hg1 hB1;have hB:Below w.heap.size w w1:=Below.trans bel hB1)
  | (at_builtin;refine appAL rfl _ _ rfl rfl hO1 rfl (h'.bz hB) (by simp;omega) hB.size ?_;intro A2 d2 w2 hO2 hg2 hB2))
 go_ret;exact ⟨_,rfl,by simpa using hO2,hB.trans hB2⟩
def starA (a b:Asn):Asn:=⟨a.facts++b.facts,a.atoms++b.atoms⟩
def starF (a b:Asn):Option Asn:=if a.valid&&b.valid&&(starA a b).valid then some (starA a b) else none
theorem zjC {a:Asn} (h:a.valid=true):a.facts.length≤12∧a.atoms.length≤6:=by
 simp only[Asn.valid,factsValid,Bool.and_eq_true,decide_eq_true_eq] at h;exact ⟨h.1.1,h.2.1⟩
theorem AsnO.zero (w:World) (base:Nat):AsnO w base (.agg #[.slice none 0 0,.slice none 0 0]) ⟨[],[]⟩:=⟨_,_,rfl,FactsO.nil _ _,AtomsO.nil _ _⟩
theorem blk2 (w:World) (t1 t2:TypeId) (a b:Array Value):Blk ((w.alloc (.cells a t1)).alloc (.cells b t2)) w.heap.size t1 a∧Blk ((w.alloc (.cells a t1)).alloc (.cells b t2)) (w.heap.size+1) t2 b:=
 ⟨(Blk.new w _ _).alloc _,by have:=Blk.new (w.alloc (.cells a t1)) t2 b;simpa using this⟩
theorem blk3 (w:World) (t1 t2 t3:TypeId) (a b c:Array Value):Blk (((w.alloc (.cells a t1)).alloc (.cells b t2)).alloc (.cells c t3)) w.heap.size t1 a∧Blk (((w.alloc (.cells a t1)).alloc (.cells b t2)).alloc (.cells c t3)) (w.heap.size+1) t2 b∧Blk (((w.alloc (.cells a t1)).alloc (.cells b t2)).alloc (.cells c t3)) (w.heap.size+1+1) t3 c:=
 ⟨(blk2 w t1 t2 a b).1.alloc _,(blk2 w t1 t2 a b).2.alloc _,by have:=Blk.new ((w.alloc (.cells a t1)).alloc (.cells b t2)) t3 c;simpa using this⟩
theorem own_setT {w:World} {base:Nat} {e:TypeId} {size:Nat} {v:Value} {n:Nat} {xs:List Value} (h:w.ownsRow base e size v n xs) {g:Nat} {t:TypeId} {cs:Array Value} (hk:Blk w g t cs) (ht:t≠e) (i:Nat) (u:Value):(w.setCell ⟨g,i,none⟩ u).ownsRow base e size v n xs:=by
 obtain ⟨h1,h2⟩:=h;refine ⟨h1,?_⟩;rcases h2 with h2|⟨k,cap,cur,hv,hg,hh,r⟩
 ·exact Or.inl h2
 ·exact Or.inr ⟨k,cap,cur,hv,hg,Blk.far (g:=k) hh (fun e=>Blk.ne_ hk hh ht e.symm) u,r⟩
theorem FactsO.setT {w:World} {base:Nat} {v:Value} {xs:List Fct} (h:FactsO w base v xs) {g:Nat} {t:TypeId} {cs:Array Value} (hk:Blk w g t cs) (ht:t≠tF) (i:Nat) (u:Value):FactsO (w.setCell ⟨g,i,none⟩ u) base v xs:=⟨own_setT h.1 hk ht i u,h.2⟩
theorem AtomsO.setT {w:World} {base:Nat} {v:Value} {xs:List Atm} (h:AtomsO w base v xs) {g:Nat} {t:TypeId} {cs:Array Value} (hk:Blk w g t cs) (ht:t≠tA) (i:Nat) (u:Value):AtomsO (w.setCell ⟨g,i,none⟩ u) base v xs:=⟨own_setT h.1 hk ht i u,h.2⟩
theorem IntsO.setT {w:World} {base:Nat} {v:Value} {xs:List Int} (h:IntsO w base v xs) {g:Nat} {t:TypeId} {cs:Array Value} (hk:Blk w g t cs) (ht:t≠tI) (i:Nat) (u:Value):IntsO (w.setCell ⟨g,i,none⟩ u) base v xs:=⟨own_setT h.1 hk ht i u,h.2⟩
theorem c_impl_Star {lo hi lo' hi':Nat} (v v':Value) (a b:Asn) (w:World) (h:AsnV w lo hi v a) (h':AsnV w lo' hi' v' b) :
  Calls Tryz.prog 41 #[v,v'] w fun e w'=>∃ r,e=.returned (.tuple #[r,.bool (starF a b).isSome])∧AsnO w' w.heap.size r ((starF a b).getD ⟨[],[]⟩)∧Below w.heap.size w w':=by
 have hV:=ax h;have hV':=ax h';obtain ⟨A1,c1,A2,c2,rfl,h1,h2⟩:=h;obtain ⟨A3,c3,A4,c4,rfl,h3,h4⟩:=h';have HF:aJ (starF a b=if a.valid&&b.valid&&(starA a b).valid then some (starA a b) else none):=rfl;(go_enter Tryz.func41,Tryz.ntmps41);(go_wp2_with fail);refine (jz _ a _ (hV.o.bz bel)).mono ?_;rintro e w1 ⟨rfl,hB1⟩;have hB:=bgo (w:=w) bel hB1;have kk:=blk3 w 37 37 37 #[.slice A1 a.facts.length c1,.slice A2 a.atoms.length c2] #[.slice A3 b.facts.length c3,.slice A4 b.atoms.length c4] #[.slice none 0 0,.slice none 0 0];have k0:=kk.1.nz hB1;have k1:=kk.2.1.nz hB1;have k2:=kk.2.2.nz hB1;clear kk hB1;have q1:=k1.cell;have q2:=k2.cell;have r2:=k2.frozen;cases ha:a.valid
 ·have E:=ax (show starF a b=none by rw[HF.o,ha];rfl);clear ha;(go_wp2_with fail);refine bodyPost_ret (v:=.tuple #[.agg #[.slice none 0 0,.slice none 0 0],.bool false]) (by simp[results,Tryz.results41,go_sem,q2]) rfl ⟨_,by rw[E.o];rfl,by rw[E.o];exact AsnO.zero _ _,bel⟩
 have HA:=ax ha;clear ha q2 r2;(go_wp2_with fail);refine (jz _ b _ (hV'.o.bz hB)).mono ?_;rintro e w2 ⟨rfl,hB2⟩;replace hB:=bgo hB hB2;replace k0:=k0.nz hB2;replace k1:=k1.nz hB2;replace k2:=k2.nz hB2;clear q1 hB2;have q2:=k2.cell;have r2:=k2.frozen;cases hb:b.valid
 ·have E:=ax (show starF a b=none by rw[HF.o,HA.o,hb];rfl);clear hb;(go_wp2_with fail);refine bodyPost_ret (v:=.tuple #[.agg #[.slice none 0 0,.slice none 0 0],.bool false]) (by simp[results,Tryz.results41,go_sem,q2]) rfl ⟨_,by rw[E.o];rfl,by rw[E.o];exact AsnO.zero _ _,bel⟩
 have HB:=ax hb;have l1:=zjC HA.o;have l2:=zjC HB.o;clear hb q2 r2;(go_wp2_with fail);have lt2:=k2.lt
 go_region_held3 (fun w'=>(∀ i,w'.cell? ⟨w.heap.size,i,none⟩=#[.slice A1 a.facts.length c1,.slice A2 a.atoms.length c2][i]?)∧(∀ i,w'.cell? ⟨w.heap.size+1,i,none⟩=#[.slice A3 b.facts.length c3,.slice A4 b.atoms.length c4][i]?))
  (exact ⟨Blk.cell blks,Blk.cell blks⟩)
  (first
   | (go_at_call 111;refine (c_joinF _ _ _ _ a.facts b.facts _ (h1.bz bel) (h3.bz bel) (by omega)).mono ?_;rintro e w3 ⟨r3,rfl,o3,hB3⟩;have hBw3:=bgo (w:=w) bel hB3;have m0:=Blk.nz (g:=w.heap.size) blks hB3;have m1:=Blk.nz (g:=w.heap.size+1) blks hB3;have m2:=Blk.nz (g:=w.heap.size+1+1) blks hB3;have lt3:=m2.lt;obtain ⟨R3,d3,rfl,-⟩:=o3.rj;(try have z3:Blk w3 w2.heap.size 37 #[.slice none 0 0,.slice none 0 0]:=Blk.nz (Blk.new w2.drew _ _) hB3))
   | (go_at_call 112;refine (c_joinA _ _ _ _ a.atoms b.atoms _ (h2.bz bel) (h4.bz bel) (by omega)).mono ?_;rintro e w4 ⟨r4,rfl,o4,hB4⟩;have hBw4:=bgo (w:=w) bel hB4;have n0:=Blk.nz (g:=w.heap.size) blks hB4;have n1:=Blk.nz (g:=w.heap.size+1) blks hB4;have n2:=Blk.nz (g:=w.heap.size+1+1) blks hB4;have o3b:=(o3.bz bel).bz hB4;obtain ⟨R4,d4,rfl,-⟩:=o4.rj;(try have z4:Blk w4 w2.heap.size 37 #[.slice none 0 0,.slice none 0 0]:=z3.nz hB4);(try have z4:Blk w4 w3.heap.size 37 #[.slice none 0 0,.slice none 0 0]:=Blk.nz (Blk.new w3 _ _) hB4);(try have z4c:=z4.cell);(try have z4f:=z4.frozen)))
 all_goals
  simp only[List.length_append] at o3b o4;(go_wp2_with fail);refine (jz (lo:=0) (hi:=w4.heap.size+1) _ (starA a b) _ ?av).mono ?_
  case av=>
   refine ⟨R3,d3,R4,d4,by simp[starA],?_,?_⟩
   ·exact (FactsO.readsI (by first|exact o3b|exact (o3b.setT z4 (by decide) _ _).setT (z4.set_ _ _) (by decide) _ _|exact o3b.bz bel)).2.mono (Nat.zero_le _) (by simp)
   ·exact (AtomsO.readsI (by first|exact o4|exact (o4.setT z4 (by decide) _ _).setT (z4.set_ _ _) (by decide) _ _|exact o4.bz bel)).2.mono (Nat.zero_le _) (by simp)
  rintro e w5 ⟨rfl,hB5⟩;have p2:Blk w5 (w.heap.size+1+1) 37 #[.slice none 0 0,.slice none 0 0]:=Blk.nz (by first|exact n2|exact (n2.far (by simp only[];omega) _).far (by simp only[];omega) _|exact n2.alloc _) hB5;have hBw5:Below w.heap.size w w5:=bgo bel hB5;have hz:w4.heap.size=w4.heap.size:=rfl;have z5:=(by first|exact Blk.nz (Blk.new w4 37 #[.slice R3 (a.facts.length+b.facts.length) d3,.slice R4 (a.atoms.length+b.atoms.length) d4]) hB5|exact Blk.nz ((z4.set_ 0 (.slice R3 (a.facts.length+b.facts.length) d3)).set_ 1 (.slice R4 (a.atoms.length+b.atoms.length) d4)) hB5);have f3:FactsO w5 w.heap.size (.slice R3 (a.facts.length+b.facts.length) d3) (a.facts++b.facts):=FactsO.bq (FactsO.bz (by first|exact o3b|exact (o3b.setT z4 (by decide) _ _).setT (z4.set_ _ _) (by decide) _ _|exact o3b.bz bel) hB5) (by first|omega|(simp;omega));have f4:AtomsO w5 w.heap.size (.slice R4 (a.atoms.length+b.atoms.length) d4) (a.atoms++b.atoms):=AtomsO.bq (AtomsO.bz (by first|exact o4|exact (o4.setT z4 (by decide) _ _).setT (z4.set_ _ _) (by decide) _ _|exact o4.bz bel) hB5) (by first|omega|(simp;omega));have q5:=z5.cell;have q2:=p2.cell;have r2:=p2.frozen;clear hB5 o3 o3b o4 hB4 hB3;cases hv:(starA a b).valid
  ·have E:=ax (show starF a b=none by rw[HF.o,HA.o,HB.o,hv];rfl);clear hv;(go_wp2_with fail);refine bodyPost_ret (v:=.tuple #[.agg #[.slice none 0 0,.slice none 0 0],.bool false]) (by simp[results,Tryz.results41,go_sem,q2]) rfl ⟨_,by rw[E.o];rfl,by rw[E.o];exact AsnO.zero _ _,bel⟩
  ·have E:=ax (show starF a b=some (starA a b) by rw[HF.o,HA.o,HB.o,hv];rfl);clear hv;(go_wp2_with fail);refine bodyPost_ret (v:=.tuple #[.agg #[.slice R3 (a.facts.length+b.facts.length) d3,.slice R4 (a.atoms.length+b.atoms.length) d4],.bool true]) (by simp[results,Tryz.results41,go_sem,q2]) rfl ⟨_,by rw[E.o];rfl,?_,bel⟩;rw[E.o];exact ⟨_,_,rfl,(f3.setT p2 (by decide) _ _).setT (p2.set_ _ _) (by decide) _ _,(f4.setT p2 (by decide) _ _).setT (p2.set_ _ _) (by decide) _ _⟩
theorem zjA {x:Int}:jq x=true↔0≤x∧x≤8:=by simp[jq]
@[irreducible] def tins (S:Nat) (t:Int):Nat:=if jq t then S|||1 <<< t.toNat else S
theorem tins_lt {S:Nat} (h:S<512) (t:Int):tins S t<512:=by
 unfold tins
 split
 ·rename_i ht;have ht:=zjA.1 ht;rw[Nat.one_shiftLeft]
  exact Nat.or_lt_two_pow (n:=9) h (by
   have:(2:Nat) ^ t.toNat≤2 ^ 8:=Nat.pow_le_pow_right (by omega) (by omega)
   omega)
 ·exact h
theorem tins_bit (S:Nat) (t:Int) (n:Nat):(tins S t).testBit n=(S.testBit n || decide (jq t=true∧t=(n:Int))):=by
 unfold tins
 split
 ·rename_i ht;have hb:=zjA.1 ht;rw[Nat.testBit_or,Nat.one_shiftLeft,Nat.testBit_two_pow]
  congr 1
  rw[decide_eq_decide];constructor
  ·intro e;exact ⟨ht,by omega⟩
  ·intro e;omega
 ·rename_i ht;simp[ht]
def tset (l:List Int):Nat:=l.foldl tins 0
theorem foldl_tins_lt (l:List Int):∀ {S:Nat},S<512→l.foldl tins S<512:=by
 induction l with
 | nil=>intro S h;exact h
 | cons x l ih=>intro S h;exact ih (tins_lt h x)
theorem tset_lt (l:List Int):tset l<512:=foldl_tins_lt l (by decide)
theorem foldl_tins_bit (l:List Int):∀ (S n:Nat),(l.foldl tins S).testBit n=(S.testBit n || decide (jq (n:Int)=true∧(n:Int)∈l)):=by
 induction l with
 | nil=>intro S n;simp
 | cons x l ih=>
  intro S n;rw[List.foldl_cons,ih,tins_bit,Bool.or_assoc]
  congr 1
  rw[←Bool.decide_or,decide_eq_decide];constructor
  ·rintro (⟨h,rfl⟩|⟨h,hm⟩)
   ·exact ⟨h,List.mem_cons_self⟩
   ·exact ⟨h,List.mem_cons_of_mem _ hm⟩
  ·rintro ⟨h,hm⟩;rcases List.mem_cons.1 hm with e|hm
   ·exact Or.inl ⟨e▸h,e.symm⟩
   ·exact Or.inr ⟨h,hm⟩
theorem tset_bit (l:List Int) (n:Nat):(tset l).testBit n=decide (jq (n:Int)=true∧(n:Int)∈l):=by
 rw[tset,foldl_tins_bit];simp
def factT (f:Fct):List Int:=[f.a,f.b]
def atomT (x:Atm):List Int:=[x.a,x.b]
def mz (a:Asn):List Int:=a.facts.flatMap factT++a.atoms.flatMap atomT
attribute [irreducible] tset
theorem c_impl_with (S:Nat) (t:Int) (w:World) (hS:S<512):Calls Tryz.prog 135 #[.int .u16 S,.int .i64 t] w fun e w'=>e=.returned (.int .u16 (tins S t))∧w=w':=by
 cases ht:jq t
 ·(go_enter Tryz.func135,Tryz.ntmps135);(go_wp2_with (go_at_call 151;refine (c_impl_isTerm _ _).mono ?_;rintro e w' ⟨rfl,rfl⟩));go_ret;exact ⟨by rw[tins,ht];rfl,rfl⟩
 ·have hb:=zjA.1 ht;have HT:=ax ht;obtain ⟨m,rfl⟩:=Int.eq_ofNat_of_zero_le hb.1;(go_enter Tryz.func135,Tryz.ntmps135);(go_wp2_with (go_at_call 151;refine (c_impl_isTerm _ _).mono ?_;rintro e w' ⟨rfl,rfl⟩));go_ret;refine ⟨?_,rfl⟩;have e:=bit_or S m (by omega) (by omega);rw[tins,HT.o,if_pos rfl,Int.toNat_natCast,←e];simp
theorem c_impl_tHas (S:Nat) (t:Int) (w:World) (hS:S<512):Calls Tryz.prog 140 #[.int .u16 S,.int .i64 t] w fun e w'=>e=.returned (.bool (jq t&&S.testBit t.toNat))∧w=w':=by
 cases ht:jq t
 ·(go_enter Tryz.func140,Tryz.ntmps140);(go_wp2_with (go_at_call 151;refine (c_impl_isTerm _ _).mono ?_;rintro e w' ⟨rfl,rfl⟩));go_ret;exact ⟨rfl,rfl⟩
 ·have hb:=zjA.1 ht;have HT:=ax ht;obtain ⟨m,rfl⟩:=Int.eq_ofNat_of_zero_le hb.1;have hbit:=bit_has S m (by omega);(go_enter Tryz.func140,Tryz.ntmps140);(go_wp2_with (go_at_call 151;refine (c_impl_isTerm _ _).mono ?_;rintro e w' ⟨rfl,rfl⟩));go_ret;refine ⟨?_,rfl⟩;exact zjD (by simp)
theorem foldl_step {α:Type} (f:Nat→α→Nat) (S:Nat) (xs:List α) (k:Nat) (hk:k<xs.length):(xs.drop k).foldl f S=(xs.drop (k+1)).foldl f (f S xs[k]):=by
 rw[List.drop_eq_getElem_cons hk];rfl
theorem tset_terms (a:Asn):tset (mz a)=(a.atoms.foldl (fun S x=>tins (tins S x.a) x.b) (a.facts.foldl (fun S f=>tins (tins S f.a) f.b) 0)):=by
 have h1:∀ (fs:List Fct) (S:Nat),(fs.flatMap factT).foldl tins S=fs.foldl (fun S f=>tins (tins S f.a) f.b) S:=by
  intro fs;induction fs with
  | nil=>intro S;rfl
  | cons f fs ih=>intro S;rw[List.flatMap_cons,List.foldl_append,ih];rfl
 have h2:∀ (fs:List Atm) (S:Nat),(fs.flatMap atomT).foldl tins S=fs.foldl (fun S f=>tins (tins S f.a) f.b) S:=by
  intro fs;induction fs with
  | nil=>intro S;rfl
  | cons f fs ih=>intro S;rw[List.flatMap_cons,List.foldl_append,ih];rfl
 rw[tset,mz,List.foldl_append,h1,h2]
theorem c_impl_termsIn {lo hi:Nat} (v:Value) (a:Asn) (w:World) (h:AsnV w lo hi v a):Calls Tryz.prog 64 #[v] w fun e w'=>e=.returned (.int .u16 (tset (mz a)))∧Below w.heap.size w w':=by
 obtain ⟨A1,c1,A2,c2,rfl,h1,h2⟩:=h;have hl1:=h1.le;have hl2:=h2.le;have HT:=ax (tset_terms a);(go_enter Tryz.func64,Tryz.ntmps64);go_wp2
 go_loopw [3,11] (fun S i wr=>∃ (k T:Nat),k≤a.facts.length∧i=.int .i64 k∧S=.int .u16 T∧T<512∧aJ (a.facts.foldl (fun S f=>tins (tins S f.a) f.b) 0=(a.facts.drop k).foldl (fun S f=>tins (tins S f.a) f.b) T)∧Blk wr w.heap.size 37 #[.slice A1 a.facts.length c1,.slice A2 a.atoms.length c2]∧Below w.heap.size w wr) (fun _ i _=>a.facts.length - (intOf i).toNat)
 case atStart=>exact ⟨0,0,Nat.zero_le _,rfl,rfl,by decide,rfl,blks,bel⟩
 case round=>
  obtain ⟨k,T,hk,rfl,rfl,hT,HA,hK,hB⟩:=hrel;by_cases hlt:k<a.facts.length
  ·obtain ⟨b,off,rfl,g0,g1,g2⟩:=(h1.bz hB).at hlt;have HD:=ax (foldl_step (fun S (f:Fct)=>tins (tins S f.a) f.b) T a.facts k hlt);have hT1:=tins_lt hT a.facts[k].a;have hT2:=tins_lt hT1 a.facts[k].b;(go_wp2_with fail);(go_quiet ((go_at_call 135;exact Calls.quiet_of_same ((c_impl_with _ _ _ (by assumption)).mono fun _ _ ⟨a,b⟩=>⟨a,b.symm⟩))));(go_wp2_with fail)
   go_round
   case rel=>exact ⟨k+1,_,by omega,by go_num,rfl,hT2,by show _=_;rw[HA.o,HD.o],(hK.alloc _).drewN _,below_drewN (bbox hB _) _⟩
   case measure=>simp[intOf];omega
  ·obtain rfl:k=a.facts.length:=by omega
   have q:=hK.cell;(go_wp2_with fail);have HA2:=ax (show a.facts.foldl (fun S f=>tins (tins S f.a) f.b) 0=T by rw[HA.o,List.drop_length];rfl)
   go_loopw [3,26] (fun S i wx=>∃ (k T':Nat),k≤a.atoms.length∧i=.int .i64 k∧S=.int .u16 T'∧T'<512∧aJ (a.atoms.foldl (fun S f=>tins (tins S f.a) f.b) T=(a.atoms.drop k).foldl (fun S f=>tins (tins S f.a) f.b) T')∧Below w.heap.size w wx) (fun _ i _=>a.atoms.length - (intOf i).toNat)
   case atStart=>exact ⟨0,T,Nat.zero_le _,rfl,rfl,hT,rfl,hB⟩
   case round=>
    clear hK q hB;obtain ⟨k,T',hk,rfl,rfl,hT',HB,hB⟩:=hrel;by_cases hlt2:k<a.atoms.length
    ·obtain ⟨b,off,rfl,g0,g1,g2⟩:=(h2.bz hB).at hlt2;have HD:=ax (foldl_step (fun S (f:Atm)=>tins (tins S f.a) f.b) T' a.atoms k hlt2);have hT1:=tins_lt hT' a.atoms[k].a;have hT2:=tins_lt hT1 a.atoms[k].b;(go_wp2_with fail);(go_quiet ((go_at_call 135;exact Calls.quiet_of_same ((c_impl_with _ _ _ (by assumption)).mono fun _ _ ⟨a,b⟩=>⟨a,b.symm⟩))));(go_wp2_with fail)
     go_round
     case rel=>exact ⟨k+1,_,by omega,by go_num,rfl,hT2,by show _=_;rw[HB.o,HD.o],below_drewN (bbox hB _) _⟩
     case measure=>simp[intOf];omega
    ·obtain rfl:k=a.atoms.length:=by omega
     (go_wp2_with fail);go_ret;refine ⟨?_,hB⟩;rw[HT.o,HA2.o,HB.o,List.drop_length];rfl
theorem c_impl_setOfTerms {lo hi:Nat} (A:Option Addr) (c:Nat) (xs:List Int) (w:World) (h:IntsV w lo hi A xs):Calls Tryz.prog 63 #[.slice A xs.length c] w fun e w'=>e=.returned (.int .u16 (tset xs))∧Below w.heap.size w w':=by
 have hl:=h.le;have HT:aJ (tset xs=xs.foldl tins 0):=by show _=_;unfold tset;rfl
 (go_enter Tryz.func63,Tryz.ntmps63);go_wp2
 go_loop [3,8] (fun S i=>∃ (k T:Nat),k≤xs.length∧i=.int .i64 k∧S=.int .u16 T∧T<512∧aJ (tset xs=(xs.drop k).foldl tins T)) (fun _ i=>xs.length - (intOf i).toNat)
 case atStart=>exact ⟨0,0,Nat.zero_le _,rfl,rfl,by decide,HT.o⟩
 case round=>
  obtain ⟨k,T,hk,rfl,rfl,hT,HA⟩:=hrel;by_cases hlt:k<xs.length
  ·obtain ⟨b,off,rfl,g0⟩:=h.at hlt;have HD:=ax (foldl_step tins T xs k hlt);have hT1:=tins_lt hT xs[k];(go_wp2_with (go_at_call 135;refine (c_impl_with _ _ _ (by assumption)).mono ?_;rintro e w' ⟨rfl,rfl⟩))
   go_round
   case rel=>exact ⟨k+1,_,by omega,by go_num,rfl,hT1,by show _=_;rw[HA.o,HD.o]⟩
   case measure=>simp[intOf];omega
  ·obtain rfl:k=xs.length:=by omega
   go_wp2;go_ret;exact ⟨by rw[HA.o,List.drop_length];rfl,Below.refl _ _⟩
end
end Go.Proofs.YtjaohekkmlkinaaGreat
