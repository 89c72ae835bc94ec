/- Normal forms: the spec. -/
import Derived.Test.YtgdfdmjnadnlnaaGreatSubst
import Derived.Test.YtgdfdmjnadnlnaaGreatNorm
set_option linter.unusedSimpArgs false
set_option linter.unusedVariables false
set_option maxRecDepth 100000
set_option maxHeartbeats 25600000
namespace Go.Proofs.YtgdfdmjnadnlnaaGreat
section
open Go Go.RowKit Go.Proofs
attribute [local go_sem ↓] Go.wp_at_zero Go.wp_at_succ
theorem c_spec_NormalForm {lo hi:Nat} (v:Value) (a:Asn) (w:World) (h:AsnV w lo hi v a) (hv:a.valid=true) :
  Calls Tryz.prog 237 #[v] w fun e w'=>∃ r,e=.returned (.tuple #[r,.bool true])∧AsnO w' w.heap.size r (normalF a)∧Below w.heap.size w w':=by
 have hV:=ax h;obtain ⟨A1,c1,A2,c2,rfl,h1,h2⟩:=h;have l1:=h1.le;have l2:=h2.le;have HV:=ax hv;have HVr:aJ (a.valid=true):=hv;clear hv;(go_enter Tryz.func237,Tryz.ntmps237);obtain ⟨k0,k1⟩:=blk2 w 36 36 #[.slice A1 a.facts.length c1,.slice A2 a.atoms.length c2] #[.slice none 0 0,.slice none 0 0];(go_wp2_with fail);refine (c_spec_AssertionValid _ a _ (hV.o.bz bel)).mono ?_;rintro e w1 ⟨rfl,hB1⟩;rw[HV.o];have hB:=bgo (w:=w) bel hB1;(replace k0:=k0.nz hB1;replace qk0:=k0.z;replace k1:=k1.nz hB1;replace qk1:=k1.cell;replace rk1:=k1.frozen;replace lk1:=k1.lt);clear hB1;(go_wp2_with fail);have k2:=Blk.new w1 36 #[.slice none 0 0,.slice none 0 0];replace k0:=k0.alloc (.cells #[.slice none 0 0,.slice none 0 0] 36);replace k1:=k1.alloc (.cells #[.slice none 0 0,.slice none 0 0] 36);replace hB:=bbox hB (.cells #[.slice none 0 0,.slice none 0 0] 36);generalize (w1.alloc (.cells #[.slice none 0 0,.slice none 0 0] 36))=V1 at k0 k1 k2 hB ⊢;obtain ⟨po,hpo⟩:∃ p,p=w1.heap.size:=⟨_,rfl⟩;rw[←hpo] at k2 lk1 ⊢;clear hpo qk0 qk1 rk1;have hpo1:w.heap.size+1<po:=lk1;clear lk1
 go_loopw [5] (fun i wr=>∃ (k:Nat) (acc:List Fct) (A:Option Addr) (c:Nat),k≤a.facts.length∧i=.int .i64 k∧acc.length≤k∧aJ (a.facts.foldl nfStep []=(a.facts.drop k).foldl nfStep acc)∧FactsO wr (po+1) (.slice A acc.length c) acc∧
   Blk wr w.heap.size 36 #[.slice A1 a.facts.length c1,.slice A2 a.atoms.length c2]∧Blk wr (w.heap.size+1) 36 #[.slice none 0 0,.slice none 0 0]∧Blk wr po 36 #[.slice A acc.length c,.slice none 0 0]∧Below w.heap.size w wr) (fun i _=>a.facts.length - (intOf i).toNat)
 case atStart=>exact ⟨0,[],none,0,Nat.zero_le _,rfl,Nat.le_refl _,rfl,FactsO.nil _ _,k0,k1,k2,hB⟩
 case round=>
  clear k0 k1 k2 hB;obtain ⟨k,acc,A,c,hk,rfl,hal,HA,of,k0,k1,k2,hB⟩:=hrel;(replace qk0:=k0.z;replace qk1:=k1.cell;replace rk1:=k1.frozen;replace lk1:=k1.lt;replace qk2:=k2.cell;replace rk2:=k2.frozen;replace lk2:=k2.lt);have hk2l:=k2.lt;by_cases hlt:k<a.facts.length
  ·obtain ⟨b,off,rfl,hbl⟩:=h1.blt hlt;obtain ⟨g0,g1,g2⟩:=(h1.bz hB).cl hlt;have HD:=ax (foldl_drop_step nfStep a.facts k hlt acc);cases hsk:(a.facts[k].eq&&(a.facts[k].a == a.facts[k].b))
   ·have HS:aJ (nfStep acc a.facts[k]=if acc.contains (nfF a.facts[k]) then acc else acc++[nfF a.facts[k]]):=by show _=_;rw[nfStep,hsk];rfl
    obtain ⟨f',hf'⟩:∃ f',f'=nfF a.facts[k]:=⟨_,rfl⟩;obtain ⟨cs,hcs⟩:∃ cs:Array Value,cs=#[.bool f'.eq,.int .i64 f'.a,.int .i64 f'.b]:=⟨_,rfl⟩;rw[←hf'] at HS;have HCS:=ax hcs;by_cases hba:a.facts[k].b<a.facts[k].a
    case' pos=>rw[nfF,if_pos hba] at hf'
    case' neg=>rw[nfF,if_neg hba] at hf'
    all_goals
     cases he:a.facts[k].eq
     all_goals
      rw[he] at g0;(try have hne:(a.facts[k].a == a.facts[k].b)=false:=by simpa [he] using hsk)
    case' pos.false=>have E:=ax (show #[Value.bool false,.int .i64 a.facts[k].b,.int .i64 a.facts[k].a]=cs by rw[hcs,hf',←he])
    case' pos.true=>have E:=ax (show #[Value.bool true,.int .i64 a.facts[k].b,.int .i64 a.facts[k].a]=cs by rw[hcs,hf',←he])
    case' neg.false=>have E:=ax (show #[Value.bool false,.int .i64 a.facts[k].a,.int .i64 a.facts[k].b]=cs by rw[hcs,hf',←he])
    case' neg.true=>have E:=ax (show #[Value.bool true,.int .i64 a.facts[k].a,.int .i64 a.facts[k].b]=cs by rw[hcs,hf',←he])
    all_goals
     clear hsk he hf' hcs;(go_wp2_with fail);rw[E.o];have kf:=Blk.new wr tF cs;replace of:=of.bz (w':=wr.alloc (.cells cs tF)) bel;replace k0:=k0.alloc (.cells cs tF);replace k1:=k1.alloc (.cells cs tF);replace k2:=k2.alloc (.cells cs tF);replace hB:=bbox hB (.cells cs tF);generalize (wr.alloc (.cells cs tF))=V at kf of k0 k1 k2 hB ⊢;clear qk0 qk1 rk1 qk2 rk2 lk1 lk2 g0 g1 g2 E;obtain ⟨pf,hpf⟩:∃ p,p=wr.heap.size:=⟨_,rfl⟩;rw[←hpf] at kf hk2l ⊢;clear hpf;rw[HCS.o] at kf
     go_loopw [7,8] (fun kn j wr=>∃ jj:Nat,jj≤acc.length∧j=.int .i64 jj∧kn=.bool ((acc.take jj).contains f')∧FactsO wr (po+1) (.slice A acc.length c) acc∧
      Blk wr w.heap.size 36 #[.slice (some ⟨b,off,none⟩) a.facts.length c1,.slice A2 a.atoms.length c2]∧Blk wr (w.heap.size+1) 36 #[.slice none 0 0,.slice none 0 0]∧Blk wr po 36 #[.slice A acc.length c,.slice none 0 0]∧
      Blk wr pf tF #[.bool f'.eq,.int .i64 f'.a,.int .i64 f'.b]∧Below w.heap.size w wr) (fun _ j _=>acc.length - (intOf j).toNat)
     case atStart=>exact ⟨0,Nat.zero_le _,rfl,by simp,of,k0,k1,k2,kf,hB⟩
     case round=>
      clear of k0 k1 k2 kf hB;obtain ⟨jj,hjj,rfl,rfl,of,k0,k1,k2,kf,hB⟩:=hrel;have qk2:=k2.cell;have rk2:=k2.frozen;have qkf:=kf.cell;have lk2:=k2.lt;have lkf:=kf.lt;have hlacc:acc.length≤1049600:=of.2;by_cases hjl:jj<acc.length
      ·obtain ⟨b2,o2,rfl,hb2⟩:=of.readsI.2.blt hjl;obtain ⟨e0,e1,e2⟩:=of.readsI.2.cl hjl;have HC:=ax (contains_take f' acc jj hjl);cases hkn:(acc.take jj).contains f'
       ·by_cases x0:acc[jj].eq=f'.eq
        ·by_cases x1:acc[jj].a=f'.a
         ·by_cases x2:acc[jj].b=f'.b
          ·have HKN:=ax (show (acc.take (jj+1)).contains f'=true by rw[HC.o,hkn,decide_eq_true ((Fct.eq_iff _ _).2 ⟨x0.symm,x1.symm,x2.symm⟩)];rfl);clear hkn;(go_wp2_with fail);(go_quiet (fail));(go_wp2_with fail)
           go_round
           case rel=>exact ⟨jj+1,by omega,by go_num,by rw[HKN.o],of.bz bel,k0.drewN _,k1.drewN _,k2.drewN _,kf.drewN _,below_drewN hB _⟩
           case measure=>simp[intOf];omega
          ·have HKN:=ax (show (acc.take (jj+1)).contains f'=false by rw[HC.o,hkn,decide_eq_false (fun h=>x2 (by rw[h]))];rfl);clear hkn;(go_wp2_with fail);(go_quiet (fail));(go_wp2_with fail)
           go_round
           case rel=>exact ⟨jj+1,by omega,by go_num,by rw[HKN.o],of.bz bel,k0.drewN _,k1.drewN _,k2.drewN _,kf.drewN _,below_drewN hB _⟩
           case measure=>simp[intOf];omega
         ·have HKN:=ax (show (acc.take (jj+1)).contains f'=false by rw[HC.o,hkn,decide_eq_false (fun h=>x1 (by rw[h]))];rfl);clear hkn;(go_wp2_with fail);(go_quiet (fail));(go_wp2_with fail)
          go_round
          case rel=>exact ⟨jj+1,by omega,by go_num,by rw[HKN.o],of.bz bel,k0.drewN _,k1.drewN _,k2.drewN _,kf.drewN _,below_drewN hB _⟩
          case measure=>simp[intOf];omega
        ·have HKN:=ax (show (acc.take (jj+1)).contains f'=false by rw[HC.o,hkn,decide_eq_false (fun h=>x0 (by rw[h]))];rfl);clear hkn;(go_wp2_with fail);(go_quiet (fail));(go_wp2_with fail)
         go_round
         case rel=>exact ⟨jj+1,by omega,by go_num,by rw[HKN.o],of.bz bel,k0.drewN _,k1.drewN _,k2.drewN _,kf.drewN _,below_drewN hB _⟩
         case measure=>simp[intOf];omega
       ·have HKN:=ax (show (acc.take (jj+1)).contains f'=true by rw[HC.o,hkn];rfl);clear hkn;(go_wp2_with fail);(go_quiet (fail));(go_wp2_with fail)
        go_round
        case rel=>exact ⟨jj+1,by omega,by go_num,by rw[HKN.o],of.bz bel,k0.drewN _,k1.drewN _,k2.drewN _,kf.drewN _,below_drewN hB _⟩
        case measure=>simp[intOf];omega
      ·obtain rfl:jj=acc.length:=by omega
       rw[List.take_length];cases hkn:acc.contains f'
       ·have HN:=ax (show nfStep acc a.facts[k]=acc++[f'] by rw[HS.o,hkn];rfl);clear hkn;have of1:=of.bz (w':=wr.alloc (.cells #[.bool f'.eq,.int .i64 f'.a,.int .i64 f'.b] tF)) bel;(go_wp2_with (at_builtin;refine appFL rfl _ _ rfl (v:=.slice A acc.length c) rfl of1 rfl (FactsV.one (Blk.new wr _ _)) (by simp;omega) (by simp;omega) ?_;intro A' c' w2 of2 hg2 hB3;have z2:=Blk.grownO (g:=po) (k2.alloc _) of1.1 hg2 (by decide);have z2c:=z2.cell;have z2f:=z2.frozen));have z0:=Blk.grownO (g:=w.heap.size) (k0.alloc _) of1.1 hg2 (by decide);have z1:=Blk.grownO (g:=w.heap.size+1) (k1.alloc _) of1.1 hg2 (by decide);have hBw2:=Below.trans (bbox hB _) (hB3.mono (by omega))
        go_round
        case rel=>
         refine ⟨k+1,acc++[f'],A',c',by omega,by go_num,by simp;omega,by show _=_;rw[HA.o,HD.o,HN.o],?_,z0.far (by simp only[];omega) _,z1.far (by simp only[];omega) _,?_,bel⟩
         ·simpa using of2.setT z2 (by decide) _ _
         ·simpa using z2.set_ 0 (.slice A' (acc.length+1) c')
        case measure=>simp[intOf];omega
       ·have HN:=ax (show nfStep acc a.facts[k]=acc by rw[HS.o,hkn];rfl);clear hkn;(go_wp2_with fail)
        go_round
        case rel=>exact ⟨k+1,acc,A,c,by omega,by go_num,by omega,by show _=_;rw[HA.o,HD.o,HN.o],of,k0,k1,k2,hB⟩
        case measure=>simp[intOf];omega
   ·have HN:=ax (show nfStep acc a.facts[k]=acc by rw[nfStep,hsk];rfl);have he:a.facts[k].eq=true:=by simp at hsk;exact hsk.1
    have hab:(a.facts[k].a == a.facts[k].b)=true:=by simp at hsk;simpa using hsk.2
    rw[he] at g0;clear hsk he;(go_wp2_with fail)
    go_round
    case rel=>exact ⟨k+1,acc,A,c,by omega,by go_num,by omega,by show _=_;rw[HA.o,HD.o,HN.o],of.bz bel,k0.alloc _,k1.alloc _,k2.alloc _,bel⟩
    case measure=>simp[intOf];omega
  ·obtain rfl:k=a.facts.length:=by omega
   have HN:=ax (show a.facts.foldl nfStep []=acc by rw[HA.o,List.drop_length];rfl);have HL:aJ (normalF a=⟨acc,a.atoms.filter nfA⟩):=by show _=_;rw[normalF,HN.o]
   clear HA HN;(go_wp2_with fail)
   go_loopw [9] (fun i wr=>∃ (k:Nat) (B:Option Addr) (d:Nat),k≤a.atoms.length∧i=.int .i64 k∧FactsO wr (po+1) (.slice A acc.length c) acc∧AtomsO wr (po+1) (.slice B ((a.atoms.take k).filter nfA).length d) ((a.atoms.take k).filter nfA)∧
    Blk wr w.heap.size 36 #[.slice A1 a.facts.length c1,.slice A2 a.atoms.length c2]∧Blk wr (w.heap.size+1) 36 #[.slice none 0 0,.slice none 0 0]∧Blk wr po 36 #[.slice A acc.length c,.slice B ((a.atoms.take k).filter nfA).length d]∧Below w.heap.size w wr) (fun i _=>a.atoms.length - (intOf i).toNat)
   case atStart=>exact ⟨0,none,0,Nat.zero_le _,rfl,of,AtomsO.nil _ _,k0,k1,k2,bel⟩
   case round=>
    clear k0 k1 k2 of hB qk0 qk1 rk1 lk1 qk2 rk2 lk2;obtain ⟨k,B,d,hk,rfl,of,oa,k0,k1,k2,hB⟩:=hrel;(replace qk0:=k0.z;replace qk1:=k1.cell;replace rk1:=k1.frozen;replace lk1:=k1.lt;replace qk2:=k2.cell;replace rk2:=k2.frozen;replace lk2:=k2.lt);by_cases hlt:k<a.atoms.length
    ·obtain ⟨b,off,rfl,hbl⟩:=h2.blt hlt;obtain ⟨g0,g1,g2⟩:=(h2.bz hB).cl hlt;have HT:=ax (filter_take nfA a.atoms k hlt);have hflen:((a.atoms.take k).filter nfA).length≤k:=Nat.le_trans (List.length_filter_le _ _) (by simp;omega)
     have hkd:a.atoms[k].kind=1∨a.atoms[k].kind=2:=by
      have hvb:=HVr.o;simp only[Asn.valid,Bool.and_eq_true] at hvb;have:=List.all_eq_true.1 hvb.2.2 _ (List.getElem_mem hlt);simp only[Atm.valid,Bool.and_eq_true,decide_eq_true_eq] at this;exact this.1.1
     obtain ⟨xs,hxs⟩:∃ xs,xs=(a.atoms.take k).filter nfA:=⟨_,rfl⟩;rw[←hxs] at HT hflen oa k2 qk2;have HX:=ax hxs;clear hxs;have lb:b<wr.heap.size:=Nat.lt_of_lt_of_le hbl hB.size;rcases hkd with hkd|hkd
     ·have HN:aJ ((a.atoms.take (k+1)).filter nfA=xs++[a.atoms[k]]):=by show _=_;rw[HT.o,nfA,hkd];simp
      have hk1:(a.atoms[k].kind == 1)=true:=by simp[hkd]
      clear hkd;(go_wp2_with fail);(go_quiet (fail));replace of:=of.bz (w':=wr.drewN nq) bel;replace oa:=oa.bz (w':=wr.drewN nq) bel;replace k0:=k0.drewN nq;replace k1:=k1.drewN nq;replace k2:=k2.drewN nq;replace hB:=below_drewN hB nq;have g0':(wr.drewN nq).cell? ⟨b,off+k*3,none⟩=some (.int .i64 a.atoms[k].kind):=((h2.bz hB).cl hlt).1;have g1':(wr.drewN nq).cell? ⟨b,off+k*3+1,none⟩=some (.int .i64 a.atoms[k].a):=((h2.bz hB).cl hlt).2.1;have g2':(wr.drewN nq).cell? ⟨b,off+k*3+2,none⟩=some (.int .i64 a.atoms[k].b):=((h2.bz hB).cl hlt).2.2;clear qk0 qk1 rk1 lk1 qk2 rk2 lk2 g0 g1 g2 lb;(go_wp2_with fail);generalize wr.drewN nq=V at of oa k0 k1 k2 hB g0' g1' g2' ⊢;(replace qk0:=k0.z;replace qk1:=k1.cell;replace rk1:=k1.frozen;replace lk1:=k1.lt;replace qk2:=k2.cell;replace rk2:=k2.frozen;replace lk2:=k2.lt);refine wp_region_noPanic ?_;refine wp_region_last' (S:=(fun w'=>(∀ i,w'.cell? ⟨po,i,none⟩=#[.slice A acc.length c,.slice B xs.length d][i]?)∧(∀ i,w'.cell? ⟨w.heap.size,i,none⟩=#[.slice A1 a.facts.length c1,.slice (some ⟨b,off,none⟩) a.atoms.length c2][i]?)∧w'.cell? ⟨b,off+k*3,none⟩=some (.int .i64 a.atoms[k].kind)∧w'.cell? ⟨b,off+k*3+1,none⟩=some (.int .i64 a.atoms[k].a)∧w'.cell? ⟨b,off+k*3+2,none⟩=some (.int .i64 a.atoms[k].b))) (by simp) (by kernel_rfl) (by kernel_rfl) (⟨Blk.cell blks,Blk.cell blks,((bcell (W:=V) bel).1 b _ (block_lt_of_cell g0')).trans g0',((bcell (W:=V) bel).1 b _ (block_lt_of_cell g1')).trans g1',((bcell (W:=V) bel).1 b _ (block_lt_of_cell g2')).trans g2'⟩) (fun aH=>?_);simp only[List.dropLast,List.getLast,nopOf,List.cons_append,List.nil_append,List.length_cons,List.length_nil,Nat.zero_add,Nat.reduceAdd];refine tk2 0 rfl aH (h:=tk2 1 rfl aH (h:=tk2 2 rfl aH (h:=?_)));(try simp only[zz]);refine tk2 3 rfl aH (h:=tk2 4 rfl aH (h:=tk2 5 rfl aH (h:=?_)));(try simp only[zz]);refine tk2 6 rfl aH (h:=?_);refine rdc 7 rfl fun K hK=>?_;(try simp only[zz]);go_simp;refine hK.out _ _ (⟨Blk.cell blks,Blk.cell blks,((bcell (W:=V) bel).1 b _ (block_lt_of_cell g0')).trans g0',((bcell (W:=V) bel).1 b _ (block_lt_of_cell g1')).trans g1',((bcell (W:=V) bel).1 b _ (block_lt_of_cell g2')).trans g2'⟩) ?_;clear aH hK K;intro aH;(try simp only[zz]);refine rdc 8 rfl fun K hK=>?_;skip;(refine stepAL (base:=po+1) (xs:=xs) rfl _ _ rfl rfl (AtomsO.bz (w:=V) oa bel) rfl (AtomsV.one' blks) (by simp;omega) (by simp;omega) ?_;intro B' d' w2 oa2 hg2 hB3;have z2:=Blk.grownO (g:=po) (hg:=hg2) blks (AtomsO.bz (w:=V) oa bel).1 (by decide);have z2c:=z2.cell;have z2f:=z2.frozen;have z0:=Blk.grownO (g:=w.heap.size) (hg:=hg2) blks (AtomsO.bz (w:=V) oa bel).1 (by decide);have z1:=Blk.grownO (g:=w.heap.size+1) (hg:=hg2) blks (AtomsO.bz (w:=V) oa bel).1 (by decide);have hBw2:Below w.heap.size w w2:=Below.trans bel (hB3.mono (by omega));have gg:=(h2.bz hBw2).cl hlt);refine hK.out _ _ (⟨z2c,z0.cell,gg.1,gg.2.1,gg.2.2⟩) ?_;clear aH hK K;intro aH;(try simp only[zz]);refine tk2 9 rfl aH (h:=?_);(try simp only[zz]);refine rdc 10 rfl fun K hK=>?_;go_simp;refine hK.out _ _ (⟨z2c,z0.cell,gg.1,gg.2.1,gg.2.2⟩) (fun aH=>?_);clear hK K;refine wpAnyH_done (by kernel_rfl) ?_ _;unfold lastQ;go_simp;refine NoPanic.normal ?_;have of2:=FactsO.grownA (FactsO.bz (w:=V) of bel) (AtomsO.bz (w:=V) oa bel) hg2;(go_wp2_with fail)
      go_round
      case rel=>
       refine ⟨k+1,B',d',by omega,by go_num,of2.setT z2 (by decide) _ _,?_,z0.far (by simp only[];omega) _,z1.far (by simp only[];omega) _,?_,bel⟩
       ·rw[HN.o];simpa using oa2.setT z2 (by decide) 1 (.slice B' (xs++[a.atoms[k]]).length d')
       ·rw[HN.o];simpa using z2.set_ 1 (.slice B' (xs.length+1) d')
      case measure=>simp[intOf];omega
     ·cases hab:(a.atoms[k].a != a.atoms[k].b)
      ·have HN:aJ ((a.atoms.take (k+1)).filter nfA=xs):=by show _=_;rw[HT.o,nfA,hkd,hab];simp
       have hk1:(a.atoms[k].kind == 1)=false:=by simp[hkd]
       have hab2:(a.atoms[k].a == a.atoms[k].b)=true:=by simpa using hab
       clear hkd;(go_wp2_with fail);(go_quiet (fail));(go_wp2_with fail)
       go_round
       case rel=>exact ⟨k+1,B,d,by omega,by go_num,of.bz bel,by rw[HN.o];exact oa.bz bel,k0.drewN _,k1.drewN _,by rw[HN.o];exact k2.drewN _,bel⟩
       case measure=>simp[intOf];omega
      ·have HN:aJ ((a.atoms.take (k+1)).filter nfA=xs++[a.atoms[k]]):=by show _=_;rw[HT.o,nfA,hkd,hab];simp
       have hk1:(a.atoms[k].kind == 1)=false:=by simp[hkd]
       have hab2:(a.atoms[k].a == a.atoms[k].b)=false:=by simpa using hab
       clear hkd;(go_wp2_with fail);(go_quiet (fail));replace of:=of.bz (w':=wr.drewN nq) bel;replace oa:=oa.bz (w':=wr.drewN nq) bel;replace k0:=k0.drewN nq;replace k1:=k1.drewN nq;replace k2:=k2.drewN nq;replace hB:=below_drewN hB nq;have g0':(wr.drewN nq).cell? ⟨b,off+k*3,none⟩=some (.int .i64 a.atoms[k].kind):=((h2.bz hB).cl hlt).1;have g1':(wr.drewN nq).cell? ⟨b,off+k*3+1,none⟩=some (.int .i64 a.atoms[k].a):=((h2.bz hB).cl hlt).2.1;have g2':(wr.drewN nq).cell? ⟨b,off+k*3+2,none⟩=some (.int .i64 a.atoms[k].b):=((h2.bz hB).cl hlt).2.2;clear qk0 qk1 rk1 lk1 qk2 rk2 lk2 g0 g1 g2 lb;(go_wp2_with fail);generalize wr.drewN nq=V at of oa k0 k1 k2 hB g0' g1' g2' ⊢;(replace qk0:=k0.z;replace qk1:=k1.cell;replace rk1:=k1.frozen;replace lk1:=k1.lt;replace qk2:=k2.cell;replace rk2:=k2.frozen;replace lk2:=k2.lt);refine wp_region_noPanic ?_;refine wp_region_last' (S:=(fun w'=>(∀ i,w'.cell? ⟨po,i,none⟩=#[.slice A acc.length c,.slice B xs.length d][i]?)∧(∀ i,w'.cell? ⟨w.heap.size,i,none⟩=#[.slice A1 a.facts.length c1,.slice (some ⟨b,off,none⟩) a.atoms.length c2][i]?)∧w'.cell? ⟨b,off+k*3,none⟩=some (.int .i64 a.atoms[k].kind)∧w'.cell? ⟨b,off+k*3+1,none⟩=some (.int .i64 a.atoms[k].a)∧w'.cell? ⟨b,off+k*3+2,none⟩=some (.int .i64 a.atoms[k].b))) (by simp) (by kernel_rfl) (by kernel_rfl) (⟨Blk.cell blks,Blk.cell blks,((bcell (W:=V) bel).1 b _ (block_lt_of_cell g0')).trans g0',((bcell (W:=V) bel).1 b _ (block_lt_of_cell g1')).trans g1',((bcell (W:=V) bel).1 b _ (block_lt_of_cell g2')).trans g2'⟩) (fun aH=>?_);simp only[List.dropLast,List.getLast,nopOf,List.cons_append,List.nil_append,List.length_cons,List.length_nil,Nat.zero_add,Nat.reduceAdd];refine tk2 0 rfl aH (h:=tk2 1 rfl aH (h:=tk2 2 rfl aH (h:=?_)));(try simp only[zz]);refine tk2 3 rfl aH (h:=tk2 4 rfl aH (h:=tk2 5 rfl aH (h:=?_)));(try simp only[zz]);refine tk2 6 rfl aH (h:=?_);refine rdc 7 rfl fun K hK=>?_;(try simp only[zz]);go_simp;refine hK.out _ _ (⟨Blk.cell blks,Blk.cell blks,((bcell (W:=V) bel).1 b _ (block_lt_of_cell g0')).trans g0',((bcell (W:=V) bel).1 b _ (block_lt_of_cell g1')).trans g1',((bcell (W:=V) bel).1 b _ (block_lt_of_cell g2')).trans g2'⟩) ?_;clear aH hK K;intro aH;(try simp only[zz]);refine rdc 8 rfl fun K hK=>?_;skip;(refine stepAL (base:=po+1) (xs:=xs) rfl _ _ rfl rfl (AtomsO.bz (w:=V) oa bel) rfl (AtomsV.one' blks) (by simp;omega) (by simp;omega) ?_;intro B' d' w2 oa2 hg2 hB3;have z2:=Blk.grownO (g:=po) (hg:=hg2) blks (AtomsO.bz (w:=V) oa bel).1 (by decide);have z2c:=z2.cell;have z2f:=z2.frozen;have z0:=Blk.grownO (g:=w.heap.size) (hg:=hg2) blks (AtomsO.bz (w:=V) oa bel).1 (by decide);have z1:=Blk.grownO (g:=w.heap.size+1) (hg:=hg2) blks (AtomsO.bz (w:=V) oa bel).1 (by decide);have hBw2:Below w.heap.size w w2:=Below.trans bel (hB3.mono (by omega));have gg:=(h2.bz hBw2).cl hlt);refine hK.out _ _ (⟨z2c,z0.cell,gg.1,gg.2.1,gg.2.2⟩) ?_;clear aH hK K;intro aH;(try simp only[zz]);refine tk2 9 rfl aH (h:=?_);(try simp only[zz]);refine rdc 10 rfl fun K hK=>?_;go_simp;refine hK.out _ _ (⟨z2c,z0.cell,gg.1,gg.2.1,gg.2.2⟩) (fun aH=>?_);clear hK K;refine wpAnyH_done (by kernel_rfl) ?_ _;unfold lastQ;go_simp;refine NoPanic.normal ?_;have of2:=FactsO.grownA (FactsO.bz (w:=V) of bel) (AtomsO.bz (w:=V) oa bel) hg2;(go_wp2_with fail)
       go_round
       case rel=>
        refine ⟨k+1,B',d',by omega,by go_num,of2.setT z2 (by decide) _ _,?_,z0.far (by simp only[];omega) _,z1.far (by simp only[];omega) _,?_,bel⟩
        ·rw[HN.o];simpa using oa2.setT z2 (by decide) 1 (.slice B' (xs++[a.atoms[k]]).length d')
        ·rw[HN.o];simpa using z2.set_ 1 (.slice B' (xs.length+1) d')
       case measure=>simp[intOf];omega
    ·obtain rfl:k=a.atoms.length:=by omega
     rw[List.take_length] at oa k2 qk2;(go_wp2_with fail);refine bodyPost_ret (v:=.tuple #[.agg #[.slice A acc.length c,.slice B (a.atoms.filter nfA).length d],.bool true]) (by simp[results,Tryz.results237,go_sem,qk1]) rfl ⟨_,rfl,?_,bel⟩;rw[HL.o];exact ⟨_,_,rfl,((of.setT k1 (by decide) _ _).setT (k1.set_ _ _) (by decide) _ _).lower (by omega),((oa.setT k1 (by decide) _ _).setT (k1.set_ _ _) (by decide) _ _).lower (by omega)⟩
end
end Go.Proofs.YtgdfdmjnadnlnaaGreat
