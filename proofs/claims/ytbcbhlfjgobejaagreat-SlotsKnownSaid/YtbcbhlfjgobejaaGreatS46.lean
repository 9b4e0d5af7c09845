/- SlotsPlays: the walk. Conditions: none, or as the theorems say. -/
import Derived.Test.YtbcbhlfjgobejaaGreatS45
import Derived.Test.YtbcbhlfjgobejaaGreatS34
import Derived.Deep.DeepCutAuto
set_option linter.unusedSimpArgs false
set_option linter.unusedVariables false
namespace Go.Proofs.YtbcbhlfjgobejaaGreat
set_option maxHeartbeats 200000000
open Go.RowKit Go.Sf Go.Shelf
variable {d:Dk} {xb:Nat}
section
variable {W w w' : World} {db mb k : Nat} {sv kv : Value} {ev fv : Int}
theorem qf.grown (h:qf W db mb k sv ev kv fv w) (hg:w.grownBy w' none):qf W db mb k sv ev kv fv w':=by
 rcases h with ⟨a1,a2,a3,a4,own,rsd,d,R,hj,a5⟩|⟨a1,a2,st,sb,own,rsd,rss,S,D,a3,a4,hj,a5⟩
 ·exact Or.inl ⟨a1,a2,a3,a4,own,rsd,d,R,hj.grown hg,a5⟩
 ·exact Or.inr ⟨a1,a2,st,sb,own,rsd,rss,S,D,a3,a4,hj.grown hg,a5⟩
theorem qf.gr (h:qf W db mb k sv ev kv fv w):W.grownBy w none:=by
 rcases h with ⟨a1,a2,a3,a4,own,rsd,d,R,hj,a5⟩|⟨a1,a2,st,sb,own,rsd,rss,S,D,a3,a4,hj,a5⟩ <;> exact hj.gr
theorem qf.up (h:qf W db mb k sv ev kv fv w):qf W db mb (k+1) sv ev kv fv w:=by
 rcases h with ⟨a1,a2,a3,a4,own,rsd,d,R,hj,a5,a6,a7⟩|⟨a1,a2,st,sb,own,rsd,rss,S,D,a3,a4,hj,a5,a6,a7,a8⟩
 ·exact Or.inl ⟨a1,a2,a3,a4,own,rsd,d,R,hj,a5,by omega,a7⟩
 ·exact Or.inr ⟨a1,a2,st,sb,own,rsd,rss,S,D,a3,a4,hj,a5,by omega,a7,by omega⟩
theorem qf.lies (h:qf W db mb k sv ev kv fv w):Calls Tryz.prog 38 #[.pointer (some ⟨db,0,none⟩),.pointer (some ⟨mb,0,none⟩)] w λe w'=>e = .returned (.bool true)∧w.grownBy w' none:=by
 rcases h with ⟨a1,a2,a3,a4,own,rsd,d,R,hj,a5,_⟩|⟨a1,a2,st,sb,own,rsd,rss,S,D,a3,a4,hj,a5,_⟩
 ·exact zib hj.dr hj.rr a5
 ·exact zib hj.disks.dr hj.disks.rr a5.d
theorem qf.form (h:qf W db mb k sv ev kv fv w) (hk:k≤100):(ev≠0∧fv=ev∧sv = .pointer none∧kv = .pointer none)∨(ev=0∧fv=0∧∃st sb,sv = .pointer (some ⟨st,0,none⟩)∧kv = .pointer (some ⟨sb,0,none⟩)∧∀w2,w.grownBy w2 none→Calls Tryz.prog 39 #[.pointer (some ⟨st,0,none⟩),.pointer (some ⟨sb,0,none⟩)] w2 λe w'=>e = .returned (.bool true)∧w2.grownBy w' none):=by
 rcases h with ⟨a1,a2,a3,a4,_⟩|⟨a1,a2,st,sb,own,rsd,rss,S,D,a3,a4,hj,a5,_,_,a6⟩
 ·exact Or.inl ⟨a1,a2,a3,a4⟩
 ·exact Or.inr ⟨a1,a2,st,sb,a3,a4,λw2 hg=>zn3 (hj.grown hg).sr (hj.grown hg).rp a5 (by omega)⟩
theorem zlt (d:Dk) (F:List Int):(d.on F).late.length≤d.late.length∧(d.on F).n=d.n:=by
 unfold Dk.on
 split
 ·exact⟨Nat.zero_le _,rfl⟩
 ·exact⟨Nat.le_refl _,rfl⟩
def PLoop (W:World) (db mb m:Nat) (s e k f i:Value) (wr:World):Prop:=∃(j:Nat) (ev fv:Int),j≤m∧i = .int .i64 (j:Int)∧e = .int .i64 ev∧f = .int .i64 fv∧qf W db mb (j+1) s ev k fv wr
theorem JEx.w0 {x:vn} {R:RDk} (h:JEx W db mb xb x d R w) : -1≤d.well:=by
 obtain⟨_,_,h,_⟩:=h
 exact h.dr.w0
theorem jw.does {x:vn} (h:jw W db mb xb k x sv 0 kv fv w) (hc:qr W x) (hk:k≤100):∃st sb,sv = .pointer (some ⟨st,0,none⟩)∧kv = .pointer (some ⟨sb,0,none⟩)∧Calls Tryz.prog 45 #[.pointer (some ⟨st,0,none⟩),.pointer (some ⟨sb,0,none⟩),.agg (yd x).toArray] w λe w'=>e = .returned (.bool true)∧qf W db mb (k+1) sv 0 kv fv w':=by
 rcases h with ⟨a1,_⟩|⟨a1,a2,st,sb,S,D,a3,a4,⟨own,rsd,rss,hj,_⟩,a5,a6,a7,a8⟩
 ·exact absurd rfl a1
 ·refine⟨st,sb,a3,a4,(zon hj a5 (by omega) (by omega) hc).mono ?_⟩
  rintro e w' ⟨rfl,own',rsd',rss',S',D',h1,h2,h3⟩;have b1:=h3.late;have b2:=h3.n;have b3:=h3.len
  exact⟨rfl,Or.inr ⟨rfl,a2,st,sb,own',rsd',rss',S',D',a3,a4,h1,h2,by omega,by omega,by omega⟩⟩
theorem JEx.popen {x:vn} {R:RDk} (h:JEx W db mb xb x d R w) (hs:xh d R) (hl:d.late.length+100≤1000*k) (hk:k≤100) (hn:d.n≤39):Calls Tryz.prog 18 #[.pointer (some ⟨db,0,none⟩)] w λe w'=>∃sv ev,e = .returned (.tuple #[sv,.int .i64 ev])∧POpen W db mb R k sv ev w':=by
 obtain⟨own,rsd,hj,_⟩:=h
 exact zfx hj hs hl hk hn
end
set_option maxRecDepth 100000 in
theorem zkq (nb:Nat) (hnb:nb<256) (v2:Value) (l:List vn) (W:World) (h1:ur W v2 l):Calls Tryz.prog 6 #[.int .u8 (nb:Int),v2] W λe w'=>e = .returned (.bool true)∧W.grownBy w' none:=by
 have HLA:=zd (zcd v2 l W h1);have HW:=zd Ya;obtain⟨p1,cap1,rfl,hl1,hok,hrow⟩:=h1;have HOK:=zd hok;have HROW:=zd hrow;obtain⟨m,hm⟩:∃m,m=l.length:=⟨_,rfl⟩;have HM:=zd hm;rw[←hm] at HLA hl1 ⊢;clear hok hrow hm;have HN:Hid (∀w:World,Calls Tryz.prog 19 #[.int .i64 ((nb:Int)%40)] w λe w'=>∃db,e = .returned (.pointer (some ⟨db,0,none⟩))∧w.grownBy w' none∧w.heap.size≤db∧∀own:Nat→Prop,(∀k,own k→k<w.heap.size)→vk own w' db (Dk.new ((nb:Int)%40))):=(λw=>dnew _ w)
 have HR:Hid (∀w:World,Calls Tryz.prog 36 #[.int .i64 ((nb:Int)%40)] w λe w'=>∃db,e = .returned (.pointer (some ⟨db,0,none⟩))∧w.grownBy w' none∧R18 (λk=>w.heap.size≤k∧k<w'.heap.size) w' db (RDk.new ((nb:Int)%40))):=(λw=>rnew _ (by omega) w)
 have HSN:=zd (zp5 ((nb:Int)%40));have HNN:Hid ((Dk.new ((nb:Int)%40)).n≤39∧(Dk.new ((nb:Int)%40)).late.length=0):=(show _∧_ from ⟨by show(min 4096 (max 0 ((nb:Int)%40))).toNat≤39;omega,rfl⟩)
 go_enter Tryz.func6,Tryz.ntmps6
 go_upto_region 4 with (first
  | (go_at_call 27;refine HLA.out.mono ?_;rintro e w1 ⟨r,rfl,hg,hr⟩;have HG1:=zd hg;have HR1:=zd hr;clear hg hr HLA)
  | (go_at_call 17;refine(HW.out _).mono ?_;rintro e w2 ⟨rfl,hg⟩;have HG2:=zd hg;clear hg)
  | (go_at_call 19;refine(HN.out _).mono ?_;rintro e w2 ⟨db,rfl,hg,hle,hd⟩;have HG2:=zd hg;have HD2:=zd (hd (λk=>k<w1.heap.size) (λk hk=>hk));clear hg hle hd HN)
  | (go_at_call 36;refine(HR.out _).mono ?_;rintro e w3 ⟨mb,rfl,hg,hr⟩;have HG3:=zd hg;have HR3:=zd hr;clear hg hr HR))
 ·go_ret
  exact⟨rfl,zh HG1.out HG2.out⟩
 ·have HLEN:=zd (HR1.out (by first|assumption|simp_all))
  clear HR1;have HJ:Hid (JE W (zao (λk=>k<w1.heap.size) w2 w3) (λk=>w2.heap.size≤k∧k<w3.heap.size) db mb (Dk.new ((nb:Int)%40)) (RDk.new ((nb:Int)%40)) w3):=(show JE _ _ _ _ _ _ _ _ from
   ⟨HD2.out.more HG3.out zaq (zap (λq hq=>HD2.out.own_lt hq) HG3.out.size),HR3.out,λq hq=>Or.inl (Nat.lt_of_lt_of_le hq HG1.out.size),zh HG1.out (zh HG2.out HG3.out),λq hq=>⟨Or.inr hq,by have:=HG1.out.size;have:=HG2.out.size;omega⟩⟩)
  have HPO:=zd (zfx (k:=1) HJ.out HSN.out (by rw[HNN.out.2];omega) (by omega) HNN.out.1)
  clear HD2 HR3 HG1 HG2 HG3 HJ HSN;generalize Dk.new ((nb:Int)%40)=d0 at *;generalize RDk.new ((nb:Int)%40)=R0 at *
  go_upto_region 6 with (first
   | (go_at_call 18;refine HPO.out.mono ?_;rintro e w4 ⟨sv,ev,rfl,hp⟩;have HP4:=zd (Vl hp (by omega));clear hp)
   | (go_at_call 37;refine HP4.out.mono ?_;rintro e w5 ⟨kv,fv,rfl,hp⟩;have HP5:=zd hp;clear hp))
  clear HPO HP4 HNN
  go_upto_region 7 with fail
  go_loopw [7,8,9,10,11] (λs e k f i wr=>PLoop W db mb m s e k f i wr) (λ_ _ _ _ i _=>m-(intOf i).toNat)
  case atStart=>exact⟨0,ev,fv,by omega,rfl,rfl,rfl,HP5.out⟩
  case round=>
   clear HP5;obtain⟨j,ev2,fv2,hj,rfl,rfl,rfl,hp⟩:=hrel;have HP:=zd hp;clear hp;have HL60:Hid (m≤60):=(show _≤_ from by have:=HLEN.out.1;have:=HM.out;omega)
   have HLI:=zd HP.out.lies;have HFO:=zd (HP.out.form (by have:=HL60.out;omega))
   by_cases hjm:j<m
   ·go_upto_region 9 with fail
    go_cut [65] from 40 to 65 (λc wx=>c = .bool false∧wr.grownBy wx none)
    case first=>
     rcases HFO.out with ⟨hez,rfl,rfl,rfl⟩|⟨rfl,rfl,st,sb,rfl,rfl,ht⟩
     ·go_wp2_with (go_at_call 38;refine HLI.out.mono ?_;rintro e w2 ⟨rfl,hg⟩;have HG2:=zd hg;clear hg)
      go_meet
      case rel=>exact⟨by simp[hez],HG2.out⟩
     ·have HT:=zd ht
      clear ht
      go_wp2_with (first
       | (go_at_call 38;refine HLI.out.mono ?_;rintro e w2 ⟨rfl,hg⟩;have HG2:=zd hg;clear hg)
       | (go_at_call 39;refine(HT.out _ HG2.out).mono ?_;rintro e w3 ⟨rfl,hg⟩;have HG3:=zd (zh HG2.out hg);clear hg))
      go_meet
      case rel=>exact⟨by simp,HG3.out⟩
    case rest=>
     obtain⟨rfl,hgc⟩:=hcut;have HPC:=zd (HP.out.grown hgc);clear HP HLI HFO hgc;have hkl:j<l.length:=by rw[←HM.out];exact hjm
     have hgetD:l.getD j zht=l[j]:=by simp[List.getD_eq_getElem?_getD,List.getElem?_eq_getElem hkl]
     obtain⟨b1,off1,rfl,hcx⟩:∃b off,p1=some ⟨b,off,none⟩∧∀q u,(yd l[j])[q]? = some u→wc.cell? ⟨b,off+j*5+q,none⟩=some u:=by
      rcases HROW.out with h0|⟨b,off,rfl,h1⟩
      ·rw[h0] at hkl;simp at hkl
      ·exact⟨b,off,rfl,λq u hu=>HPC.out.gr.cell (h1 j hkl q u (by rw[hgetD];exact hu)) (by simp)⟩
     have HX:=zd (HOK.out l[j] (List.getElem_mem hkl));have HXL:=zd (HLEN.out.2 l[j] (List.getElem_mem hkl));clear hgetD;generalize l[j]=x at *;have x0:=hcx 0 (.int .u8 x.kind) rfl;have x1:=hcx 1 (.slice x.p x.B.length x.c) rfl;have x2:=hcx 2 (.int .u8 x.times) rfl;have x3:=hcx 3 (.int .i64 x.n) rfl;have x4:=hcx 4 (.slice x.fp x.F.length x.fc) rfl;rw[Nat.add_zero] at x0;have hlt1:=xi x0;clear hcx hkl;have HSX:Hid (∀wa,wc.alloc (.cells (yd x).toArray 49)=wa→jw W db mb wc.heap.size (j+1) x u7 ev2 u9 fv2 wa):=(λwa h=>by
      subst h
      exact HPC.out.boxed (ze _ _ none) (Nat.le_refl _) (heap_alloc_new _ _))
     have hk0:=HX.out.k
     go_upto_region 12 with fail
     generalize hWA:wc.alloc (.cells #[.int .u8 x.kind,.slice x.p x.B.length x.c,.int .u8 x.times,.int .i64 x.n,.slice x.fp x.F.length x.fc] 49)=wa at *;have HS:=zd (HSX.out wa hWA);clear hWA HSX x0 x1 x2 x3 x4 hlt1;generalize wc.heap.size=xb at *;obtain⟨y0,y1,y2,y3,y4,hxlt⟩:=HS.out.box.cells;clear HPC
     by_cases c7:x.kind%12=7
     ·have hb9:x.n.tmod 9<9223372036854775808:=by have:=Int.tmod_lt_of_pos x.n (show(0:Int)<9 by decide);omega
      have HB9:=zd hb9;have HPF:=zd (HS.out.pfail (x.n.tmod 9) hb9);obtain⟨n9,hn9⟩:∃n9,n9=x.n.tmod 9:=⟨_,rfl⟩;rw[←hn9] at HPF HB9;have HN9:Hid (x.n.tmod 9=n9):=(show _=_ from hn9.symm)
      clear hb9 hn9 HS
      go_wp2_with (first
         | (refine Xq _ rfl _ _ _ _ rfl x.n 9 n9 rfl rfl (by decide) HN9.out ?_)
         | (go_at_call 28;refine HPF.out.mono ?_;rintro e w2 ⟨rfl,hp⟩;have HP2:=zd hp;clear hp y0 y1 y2 y3 y4 hxlt;obtain⟨z0,z1,z2,z3,z4,z5⟩:=HP2.out.box.cells)
         | (go_at_call 40;refine(HP2.out.dfail HB9.out).mono ?_;rintro e w3 ⟨rfl,hp⟩;have HP3:=zd hp.up;clear hp))
      exact⟨⟨j+1,ev2,fv2,by omega,by simp,rfl,rfl,HP3.out⟩,by simp[intOf];omega⟩
     ·by_cases c8:x.kind%12=8
      ·obtain⟨d,R,hjx,hsd,hlt,hn⟩:=HS.out.disk
       have HJ1:=zd hjx;have HSD:Hid (xh (d.crashed.on x.F) (R.off.on x.F)):=(show xh _ _ from zl3 (zei hsd) x.F)
       have HLT:Hid ((d.crashed.on x.F).late.length≤1000*(j+1)∧(d.crashed.on x.F).n≤39):=(show _∧_ from by
        have h1:=zlt d.crashed x.F;have h2:d.crashed.late.length=d.late.length:=rfl;have h3:d.crashed.n=d.n:=rfl;omega)
       have HFL:Hid (x.F.length≤1000000):=(show _≤_ from by have:=HXL.out.2;omega)
       clear hjx hsd hlt hn HS
       go_wp2_with (first
          | (go_at_call 41;refine HJ1.out.pcrash.mono ?_;rintro e w2 ⟨rfl,h⟩;have HJ2:=zd h;clear h y0 y1 y2 y3 y4 hxlt)
          | (go_at_call 42;refine HJ2.out.dcrash.mono ?_;rintro e w3 ⟨rfl,h⟩;have HJ3:=zd h;clear h;obtain⟨z0,z1,z2,z3,z4,z5⟩:=HJ3.out.box.cells)
          | (go_at_call 34;refine(HJ3.out.pon HX.out HFL.out).mono ?_;rintro e w4 ⟨rfl,h⟩;have HJ4:=zd h;clear h z0 z1 z2 z3 z4 z5;obtain⟨z0,z1,z2,z3,z4,z5⟩:=HJ4.out.box.cells)
          | (go_at_call 43;refine(HJ4.out.don HX.out HFL.out).mono ?_;rintro e w5 ⟨rfl,h⟩;have HJ5:=zd h;clear h z0 z1 z2 z3 z4 z5)
          | (go_at_call 18;refine(HJ5.out.popen (k:=j+2) HSD.out (by have:=HLT.out;omega) (by have:=HL60.out;omega) (by have:=HLT.out;omega)).mono ?_;rintro e w8 ⟨sv8,ev8,rfl,hp⟩;have HP8:=zd (Vl hp (by have:=HL60.out;omega));clear hp)
          | (go_at_call 37;refine HP8.out.mono ?_;rintro e w9 ⟨kv9,fv9,rfl,hp⟩;have HP9:=zd hp;clear hp))
       exact⟨⟨j+1,ev8,fv9,by omega,by simp,rfl,rfl,HP9.out⟩,by simp[intOf];omega⟩
      ·by_cases c11:x.kind%12=11
       ·obtain⟨d,R,hjx,hsd,hlt,hn⟩:=HS.out.disk
        have HJ1:=zd hjx;have HSD:Hid (xh (d.crashed.on x.F) (R.off.on x.F)):=(show xh _ _ from zl3 (zei hsd) x.F)
        have HLT:Hid ((d.crashed.on x.F).late.length≤1000*(j+1)∧(d.crashed.on x.F).n≤39):=(show _∧_ from by
         have h1:=zlt d.crashed x.F;have h2:d.crashed.late.length=d.late.length:=rfl;have h3:d.crashed.n=d.n:=rfl;omega)
        have HFL:Hid (x.F.length≤1000000):=(show _≤_ from by have:=HXL.out.2;omega)
        clear hjx hsd hlt hn HS
        go_wp2_with (first
           | (go_at_call 41;refine HJ1.out.pcrash.mono ?_;rintro e w2 ⟨rfl,h⟩;have HJ2:=zd h;clear h y0 y1 y2 y3 y4 hxlt)
           | (go_at_call 42;refine HJ2.out.dcrash.mono ?_;rintro e w3 ⟨rfl,h⟩;have HJ3:=zd h;clear h;obtain⟨z0,z1,z2,z3,z4,z5⟩:=HJ3.out.box.cells)
           | (go_at_call 34;refine(HJ3.out.pon HX.out HFL.out).mono ?_;rintro e w4 ⟨rfl,h⟩;have HJ4:=zd h;clear h z0 z1 z2 z3 z4 z5;obtain⟨z0,z1,z2,z3,z4,z5⟩:=HJ4.out.box.cells)
           | (go_at_call 43;refine(HJ4.out.don HX.out HFL.out).mono ?_;rintro e w5 ⟨rfl,h⟩;have HJ5:=zd h;clear h z0 z1 z2 z3 z4 z5)
           | (go_at_call 18;refine(HJ5.out.popen (k:=j+2) HSD.out (by have:=HLT.out;omega) (by have:=HL60.out;omega) (by have:=HLT.out;omega)).mono ?_;rintro e w8 ⟨sv8,ev8,rfl,hp⟩;have HP8:=zd (Vl hp (by have:=HL60.out;omega));clear hp)
           | (go_at_call 37;refine HP8.out.mono ?_;rintro e w9 ⟨kv9,fv9,rfl,hp⟩;have HP9:=zd hp;clear hp))
        exact⟨⟨j+1,ev8,fv9,by omega,by simp,rfl,rfl,HP9.out⟩,by simp[intOf];omega⟩
       ·by_cases c9:x.kind%12=9
        ·obtain⟨d,R,hjx,hsd,hlt,hn⟩:=HS.out.disk
         have HJ1:=zd hjx;have HSD:=zd hsd;have HLT:Hid (d.late.length≤1000*(j+1)∧d.n≤39):=(show _∧_ from ⟨hlt,hn⟩)
         clear hjx hsd hlt hn HS
         go_wp2_with (first
            | (go_at_call 18;refine(HJ1.out.popen (k:=j+2) HSD.out (by have:=HLT.out;omega) (by have:=HL60.out;omega) (by have:=HLT.out;omega)).mono ?_;rintro e w8 ⟨sv8,ev8,rfl,hp⟩;have HP8:=zd (Vl hp (by have:=HL60.out;omega));clear hp)
            | (go_at_call 37;refine HP8.out.mono ?_;rintro e w9 ⟨kv9,fv9,rfl,hp⟩;have HP9:=zd hp;clear hp))
         exact⟨⟨j+1,ev8,fv9,by omega,by simp,rfl,rfl,HP9.out⟩,by simp[intOf];omega⟩
        ·by_cases c10:x.kind%12=10
         ·obtain⟨d,R,hjx,hsd,hlt,hn⟩:=HS.out.disk
          have HJ1:=zd hjx;have HSD:Hid (xh (d.written x.n x.B) (R.written x.n x.B)):=(show xh _ _ from (Ue hsd HJ1.out.w0 x.n x.B).2)
          have HLT:Hid ((d.written x.n x.B).late.length≤1000*(j+1)+1∧(d.written x.n x.B).n≤39):=(show _∧_ from by
           have h1:=Ye d x.n x.B;rw[Yc];omega)
          have HL2:Hid (d.late.length<1000000∧yf R<1000000):=(show _∧_ from by have:=HL60.out;rw[hsd.open];omega)
          clear hjx hsd hlt hn HS
          go_wp2_with (first
             | (go_at_call 24;refine(HJ1.out.pwrite HX.out HL2.out.1).mono ?_;rintro e w2 ⟨rfl,h⟩;have HJ2:=zd h;have hcv:=uh (HX.out.b.grown h.gr (by simp));clear h y0 y1 y2 y3 y4 hxlt;obtain⟨z0,z1,z2,z3,z4,z5⟩:=HJ2.out.box.cells)
             | (go_at_call 44;refine(HJ2.out.dwrite HX.out HL2.out.2).mono ?_;rintro e w3 ⟨rfl,h⟩;have HJ3:=zd h;clear h z0 z1 z2 z3 z4 z5 hcv)
             | (go_at_call 18;refine(HJ3.out.popen (k:=j+2) HSD.out (by have:=HLT.out;omega) (by have:=HL60.out;omega) (by have:=HLT.out;omega)).mono ?_;rintro e w8 ⟨sv8,ev8,rfl,hp⟩;have HP8:=zd (Vl hp (by have:=HL60.out;omega));clear hp)
             | (go_at_call 37;refine HP8.out.mono ?_;rintro e w9 ⟨kv9,fv9,rfl,hp⟩;have HP9:=zd hp;clear hp))
          exact⟨⟨j+1,ev8,fv9,by omega,by simp,rfl,rfl,HP9.out⟩,by simp[intOf];omega⟩
         ·by_cases hez:ev2=0
          ·subst hez
           obtain⟨st,sb,rfl,rfl,hcall⟩:=HS.out.does HX.out (by have:=HL60.out;omega)
           have HCA:Hid (Calls Tryz.prog 45 #[.pointer (some ⟨st,0,none⟩),.pointer (some ⟨sb,0,none⟩),.agg #[.int .u8 x.kind,.slice x.p x.B.length x.c,.int .u8 x.times,.int .i64 x.n,.slice x.fp x.F.length x.fc]] wa λe w'=>e = .returned (.bool true)∧qf W db mb (j+1+1) (.pointer (some ⟨st,0,none⟩)) 0 (.pointer (some ⟨sb,0,none⟩)) fv2 w'):=(show Calls _ _ _ _ _ from hcall)
           clear hcall HS
           go_wp2_with (go_at_call 45;refine HCA.out.mono ?_;rintro e w2 ⟨rfl,hp⟩;have HP2:=zd hp;clear hp)
           exact⟨⟨j+1,0,fv2,by omega,by simp,rfl,rfl,HP2.out⟩,by simp[intOf];omega⟩
          ·have HP2:=zd HS.out.plain.up
           clear HS;go_wp2
           exact⟨⟨j+1,ev2,fv2,by omega,by simp,rfl,rfl,HP2.out⟩,by simp[intOf];omega⟩
   ·obtain rfl:j=m:=by omega
    rcases HFO.out with ⟨hez,rfl,rfl,rfl⟩|⟨rfl,rfl,st,sb,rfl,rfl,ht⟩
    ·go_wp2_with (first
      | (go_at_call 38;refine HLI.out.mono ?_;rintro e w2 ⟨rfl,hg⟩;have HG2:=zd (zh HP.out.gr hg);clear hg)
      | (go_at_call 17;refine(HW.out _).mono ?_;rintro e w3 ⟨rfl,hg⟩;have HG3:=zd hg;clear hg))
     go_ret
     exact⟨rfl,zh HG2.out HG3.out⟩
    ·have HT:=zd ht
     clear ht
     go_wp2_with (first
      | (go_at_call 38;refine HLI.out.mono ?_;rintro e w2 ⟨rfl,hg⟩;have HG2:=zd hg;clear hg)
      | (go_at_call 39;refine(HT.out _ HG2.out).mono ?_;rintro e w3 ⟨rfl,hg⟩;have HG3:=zd (zh HP.out.gr (zh HG2.out hg));clear hg)
      | (go_at_call 17;refine(HW.out _).mono ?_;rintro e w4 ⟨rfl,hg⟩;have HG4:=zd hg;clear hg))
     go_ret
     exact⟨rfl,zh HG3.out HG4.out⟩
end Go.Proofs.YtbcbhlfjgobejaaGreat
