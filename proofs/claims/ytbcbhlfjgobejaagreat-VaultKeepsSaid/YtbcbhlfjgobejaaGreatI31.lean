/- share.Get as a law: what bytes say. Conditions: none, or as the theorems say. -/
import Derived.Test.YtbcbhlfjgobejaaGreatI30
import Derived.Test.YtbcbhlfjgobejaaGreatI21
set_option linter.unusedSimpArgs false
set_option linter.unusedVariables false
namespace Go.Proofs.YtbcbhlfjgobejaaGreat
set_option maxHeartbeats 200000000
open Go.RowKit Go.Sf Go.Shelf
def okS (b:List Int) (s:ShM):Prop:=4≤b.length∧∃g,GtOk (b.take (b.length-4)) g∧okG b (b.take (b.length-4)) g=true∧s=⟨g.key,wrap64 (g.vn:Int),(g.nd:Int),g.row⟩
theorem zi5 {e:List Int} {g g':GtS} (h:GtOk e g) (h':GtOk e g'):g=g':=by
 obtain⟨n,s1,key,s2,vn,s3,nd,s4,m,s5,row,s6⟩:=g;obtain⟨n',s1',key',s2',vn',s3',nd',s4',m',s5',row',s6'⟩:=g';obtain⟨h1,h2,h3,h4,h5,h6,h7,h8,h9,h10,h11,h12⟩:=h;obtain⟨k1,k2,k3,k4,k5,k6,k7,k8,k9,k10,k11,k12⟩:=h';simp only at h1 h2 h3 h4 h5 h6 h7 h8 h9 h10 h11 h12 k1 k2 k3 k4 k5 k6 k7 k8 k9 k10 k11 k12;obtain rfl:n=n':=h1.trans k1.symm;obtain rfl:s1=s1':=h2.trans k2.symm;obtain rfl:key=key':=h3.trans k3.symm;obtain rfl:s2=s2':=h4.trans k4.symm;obtain rfl:vn=vn':=h5.trans k5.symm;obtain rfl:s3=s3':=h6.trans k6.symm;obtain rfl:nd=nd':=h7.trans k7.symm;obtain rfl:s4=s4':=h8.trans k8.symm;obtain rfl:m=m':=h9.trans k9.symm;obtain rfl:s5=s5':=h10.trans k10.symm;obtain rfl:row=row':=h11.trans k11.symm;obtain rfl:s6=s6':=h12.trans k12.symm
 rfl
theorem zeh {b:List Int} {s s':ShM} (h:okS b s) (h':okS b s'):s=s':=by
 obtain⟨_,g,h1,_,rfl⟩:=h;obtain⟨_,g',h2,_,rfl⟩:=h';rw[zi5 h1 h2]
theorem Jt (a b c:List Int) (k:Nat) (hb:b.length=k):zfh (a++(b++c)) (a.length,false) k=true∧Zz (a++(b++c)) (a.length,false) k=num b∧Vc (a++(b++c)) (a.length,false) k=b∧ux (a++(b++c)) (a.length,false) k=((a++b).length,false):=by
 have h1:zfh (a++(b++c)) (a.length,false) k=true:=(jl _ _ _).2 ⟨rfl,by simp;omega⟩
 have h2:((a++(b++c)).drop a.length).take k=b:=by rw[List.drop_left,List.take_left' hb]
 refine⟨h1,?_,?_,?_⟩
 ·unfold Zz;rw[if_pos h1];exact congrArg num h2
 ·unfold Vc;rw[if_pos h1];exact h2
 ·unfold ux;rw[if_pos h1,List.length_append,hb]
theorem okS_enc {s:ShM} (h:ze3 s) (hk:BL s.key) (hr:BL s.row):okS (vh s) s:=by
 have hl:=Vj s;have hbl:=zc3 s;obtain⟨k1,k2,v1,v2,n1,n2,r1⟩:=h;have e0:(vh s).take ((vh s).length-4)=qd s:=by
  unfold vh;rw[List.take_left' (by rw[List.length_append,yo];omega)]
 have e1:(vh s).drop ((vh s).length-4)=be 4 (ya (qd s)):=by
  unfold vh;rw[List.drop_left' (by rw[List.length_append,yo];omega)]
 refine⟨by omega,?_⟩
 rw[e0];have eb:qd s = []++(be 1 s.key.length++(s.key++(be 8 s.znm.toNat++(be 1 s.node.toNat++(be 4 s.row.length++s.row))))):=by simp[qd]
 have eb1:qd s=be 1 s.key.length++(s.key++(be 8 s.znm.toNat++(be 1 s.node.toNat++(be 4 s.row.length++s.row)))):=by simp[qd]
 have eb2:qd s=(be 1 s.key.length++s.key)++(be 8 s.znm.toNat++(be 1 s.node.toNat++(be 4 s.row.length++s.row))):=by simp[qd]
 have eb3:qd s=((be 1 s.key.length++s.key)++be 8 s.znm.toNat)++(be 1 s.node.toNat++(be 4 s.row.length++s.row)):=by simp[qd]
 have eb4:qd s=(((be 1 s.key.length++s.key)++be 8 s.znm.toNat)++be 1 s.node.toNat)++(be 4 s.row.length++s.row):=by simp[qd]
 have eb5:qd s=((((be 1 s.key.length++s.key)++be 8 s.znm.toNat)++be 1 s.node.toNat)++be 4 s.row.length)++(s.row ++ []):=by simp[qd]
 obtain⟨-,a1,-,a2⟩:=Jt [] (be 1 s.key.length) (s.key++(be 8 s.znm.toNat++(be 1 s.node.toNat++(be 4 s.row.length++s.row)))) 1 (yo _ _);obtain⟨-,-,b1,b2⟩:=Jt (be 1 s.key.length) s.key (be 8 s.znm.toNat++(be 1 s.node.toNat++(be 4 s.row.length++s.row))) s.key.length rfl;obtain⟨-,c1,-,c2⟩:=Jt (be 1 s.key.length++s.key) (be 8 s.znm.toNat) (be 1 s.node.toNat++(be 4 s.row.length++s.row)) 8 (yo _ _);obtain⟨-,d1,-,d2⟩:=Jt ((be 1 s.key.length++s.key)++be 8 s.znm.toNat) (be 1 s.node.toNat) (be 4 s.row.length++s.row) 1 (yo _ _);obtain⟨-,f1,-,f2⟩:=Jt (((be 1 s.key.length++s.key)++be 8 s.znm.toNat)++be 1 s.node.toNat) (be 4 s.row.length) s.row 4 (yo _ _);obtain⟨-,-,h1,h2⟩:=Jt ((((be 1 s.key.length++s.key)++be 8 s.znm.toNat)++be 1 s.node.toNat)++be 4 s.row.length) s.row [] s.row.length rfl;rw[←eb] at a1 a2;rw[←eb1] at b1 b2;rw[←eb2] at c1 c2;rw[←eb3] at d1 d2;rw[←eb4] at f1 f2;rw[←eb5] at h1 h2;rw[Yy _ _ (by omega)] at a1 c1 d1 f1
 have q1:Zz (qd s) (0,false) 1=s.key.length:=a1;have q2:ux (qd s) (0,false) 1=((be 1 s.key.length).length,false):=a2;refine⟨⟨s.key.length,((be 1 s.key.length).length,false),s.key,((be 1 s.key.length++s.key).length,false),s.znm.toNat,(((be 1 s.key.length++s.key)++be 8 s.znm.toNat).length,false),s.node.toNat,((((be 1 s.key.length++s.key)++be 8 s.znm.toNat)++be 1 s.node.toNat).length,false),s.row.length,(((((be 1 s.key.length++s.key)++be 8 s.znm.toNat)++be 1 s.node.toNat)++be 4 s.row.length).length,false),s.row,((((((be 1 s.key.length++s.key)++be 8 s.znm.toNat)++be 1 s.node.toNat)++be 4 s.row.length)++s.row).length,false)⟩,⟨q1.symm,q2.symm,b1.symm,b2.symm,c1.symm,c2.symm,d1.symm,d2.symm,f1.symm,f2.symm,h1.symm,h2.symm⟩,?_,?_⟩
 ·have hw:wrap64 ((s.znm.toNat:Nat):Int)=s.znm:=by unfold wrap64;omega
  have hn:((s.node.toNat:Nat):Int)=s.node:=by omega
  unfold okG;simp only;rw[e1,Yy _ _ (zd7 _),hw,hn,(Yj s v2).2 ⟨k1,k2,v1,v2,n1,n2,r1⟩];simp[hbl,yo];omega
 ·have hw:wrap64 ((s.znm.toNat:Nat):Int)=s.znm:=by unfold wrap64;omega
  have hn:((s.node.toNat:Nat):Int)=s.node:=by omega
  simp only;rw[hw,hn]
def GetL (W:World) (b:List Int) (e:Ending) (w':World):Prop:=
 W.grownBy w' none∧(((∀s,¬okS b s)∧e = .returned (.tuple #[jo,.int .i64 160]))∨∃s,okS b s∧∃pk ck pr cr,e = .returned (.tuple #[shV pk ck pr cr s,.int .i64 0])∧ye (fun k=>W.heap.size≤k∧k<w'.heap.size) w' (.slice pk s.key.length ck) (zi s.key)∧ye (fun k=>W.heap.size≤k∧k<w'.heap.size) w' (.slice pr s.row.length cr) (zi s.row))
theorem zky {P:Nat→Prop} {W:World} {v:Value} {b:List Int} (h:ye P W v (zi b)) (hb:BL b) (hl:b.length≤200000):Calls Tryz.prog 189 #[v] W (GetL W b):=by
 obtain⟨p,c,rfl,hcap,hc9,hr⟩:=h.ex;have hraw:=h.raw;rw[zr] at hcap hraw ⊢
 by_cases h4:b.length<4
 ·refine(zgp h4).mono ?_
  rintro e w' ⟨rfl,hg⟩
  exact⟨hg,Or.inl ⟨fun s hs=>by have:=hs.1;omega,rfl⟩⟩
 ·obtain⟨g,hg⟩:=gt_ex (b.take (b.length-4))
  refine(zie hraw hcap hc9 hb hl (by omega) hg).mono ?_
  rintro e w' ⟨h1,⟨h2,rfl⟩|⟨h2,pk,ck,pr,cr,rfl,h3,h5⟩⟩
  ·refine⟨h1,Or.inl ⟨fun s hs=>?_,rfl⟩⟩
   obtain⟨_,g',hg',ho,_⟩:=hs;rw[←zi5 hg hg',h2] at ho
   cases ho
  ·exact⟨h1,Or.inr ⟨⟨g.key,wrap64 (g.vn:Int),(g.nd:Int),g.row⟩,⟨by omega,g,hg,h2,rfl⟩,pk,ck,pr,cr,rfl,h3,h5⟩⟩
attribute [local go_sem] Oper.semAt_some
theorem Jp (a b:Int):uf a b=0↔a=b:=by
 unfold uf
 split
 ·omega
 ·split <;> omega
theorem zlq (a b:Int) (W:World):Calls Tryz.prog 263 #[.int .u8 a,.int .u8 b] W fun e w'=>e = .returned (.int .i64 (uf a b))∧w'=W:=by
 by_cases h1:a<b
 ·have hc:uf a b = -1:=by unfold uf;rw[if_pos h1]
  rw[hc]
  go_enter Tryz.func263,Tryz.ntmps263
  go_wp2
  go_ret
  exact⟨rfl,rfl⟩
 ·by_cases h2:b<a
  ·have hc:uf a b=1:=by unfold uf;rw[if_neg h1,if_pos h2]
   rw[hc]
   go_enter Tryz.func263,Tryz.ntmps263
   go_wp2
   go_ret
   exact⟨rfl,rfl⟩
  ·have hc:uf a b=0:=by unfold uf;rw[if_neg h1,if_neg h2]
   rw[hc]
   go_enter Tryz.func263,Tryz.ntmps263
   go_wp2
   go_ret
   exact⟨rfl,rfl⟩
def Uq:List Int→List Int→Int
 | [],[]=>0
 | [],_ :: _=>-1
 | _ :: _,[]=>1
 | x :: s,y :: t=>if uf x y=0 then Uq s t else uf x y
theorem zc7:∀a b:List Int,Uq a b=0↔a=b
 | [],[]=>by simp[Uq]
 | [],_ :: _=>by simp[Uq]
 | _ :: _,[]=>by simp[Uq]
 | x :: s,y :: t=>by
  unfold Uq;have hz:=Jp x y
  by_cases h:uf x y=0
  ·rw[if_pos h,zc7 s t,hz.1 h]
   simp
  ·rw[if_neg h]
   exact⟨fun e=>absurd e h,fun e=>absurd (hz.2 (List.cons.inj e).1) h⟩
theorem zgb {W:World} {p:Option Addr} {n c:Nat} {l:List Int} (h:yc W (.slice p n c) l) {j:Nat} (hj:j<l.length):∃a,p=some a∧W.cell? (a.add j)=some (.int .u8 l[j]):=by
 obtain⟨p',cap',e,hc⟩:=h.ex
 injection e with e1
 subst e1
 rcases hc with h0|⟨a,rfl,h1⟩
 ·rw[h0] at hj;simp at hj
 ·refine⟨a,rfl,h1 j _ ?_⟩
  unfold zi;rw[List.getElem?_map,List.getElem?_eq_getElem hj]
  rfl
set_option maxRecDepth 100000 in
theorem zm7 {W:World} {p q:Option Addr} {n m c d:Nat} {a b:List Int} (ha:yc W (.slice p n c) a) (hb:yc W (.slice q m d) b) (hn:n=a.length) (hm:m=b.length) (hl:n≤1000000) (hl2:m≤1000000):Calls Tryz.prog 237 #[.slice p n c,.slice q m d] W fun e w'=>e = .returned (.int .i64 (Uq a b))∧w'=W:=by
 have HA:=zd ha;have HB:=zd hb;have HN:=zd hn;have HM:=zd hm;obtain⟨R,hR⟩:∃R,R=Uq a b:=⟨_,rfl⟩;have HR:=zd hR;rw[←hR];clear ha hb hn hm hR
 go_enter Tryz.func237,Tryz.ntmps237
 go_wp2
 go_loopw [5,6,7,8,11] (fun _ _ _ _ i wr=>W=wr∧∃j:Nat,j≤n∧j≤m∧i = .int .i64 j∧Uq (a.drop j) (b.drop j)=R) (fun _ _ _ _ i _=>n-(intOf i).toNat)
 case atStart=>exact⟨rfl,0,Nat.zero_le _,Nat.zero_le _,rfl,HR.out.symm⟩
 case round=>
  obtain⟨rfl,j,hjn,hjm,rfl,htk⟩:=hrel;have HTK:=zd htk;clear htk
  by_cases h1:j<n
  ·have hja:j<a.length:=by rw[←HN.out];exact h1
   obtain⟨x,rfl,cx⟩:=zgb HA.out hja;have hbx:=xg cx;have e1:(j:Int)<(n:Int):=by omega
   have e0:(0:Int)≤(j:Int):=by omega
   by_cases h2:j<m
   ·have hjb:j<b.length:=by rw[←HM.out];exact h2
    obtain⟨y,rfl,cy⟩:=zgb HB.out hjb;have hby:=xg cy;have e2:(j:Int)<(m:Int):=by omega
    have HS:Hid ((if uf a[j] b[j]=0 then Uq (a.drop (j+1)) (b.drop (j+1)) else uf a[j] b[j])=R):=zd (by
     have h3:=HTK.out;rw[List.drop_eq_getElem_cons hja,List.drop_eq_getElem_cons hjb] at h3
     exact h3)
    have HCM:=zd (zlq a[j] b[j] W);generalize a[j]=x1 at *;generalize b[j]=y1 at *;generalize uf x1 y1=z at *
    by_cases hz:z=0
    ·have HS2:=HS.out
     rw[if_pos hz] at HS2;have HQ2:=zd HS2;clear HS2 HS;subst hz
     go_wp2_with (go_at_call 263;refine HCM.out.mono ?_;rintro e w1 ⟨rfl,h5⟩;obtain rfl:W=w1:=h5.symm)
     exact⟨⟨trivial,j+1,by omega,by omega,by simp,HQ2.out⟩,by simp[intOf];omega⟩
    ·have HS2:=HS.out
     rw[if_neg hz] at HS2;have HQ2:=zd HS2;clear HS2 HS
     go_wp2_with (go_at_call 263;refine HCM.out.mono ?_;rintro e w1 ⟨rfl,h5⟩;obtain rfl:W=w1:=h5.symm)
     go_ret
     exact⟨by rw[←HQ2.out];rfl,rfl⟩
   ·have e2:¬(j:Int)<(m:Int):=by omega
    have e3:(m:Int)≤(j:Int):=by omega
    have HF:Hid (R=1):=zd (by
     have h3:=HTK.out;rw[List.drop_eq_getElem_cons hja,List.drop_of_length_le (l:=b) (by rw[←HM.out];omega)] at h3
     exact h3.symm)
    go_wp2
    go_ret
    exact⟨by rw[HF.out];rfl,rfl⟩
  ·have e1:¬(j:Int)<(n:Int):=by omega
   have hjn2:j=n:=by omega
   by_cases h2:n<m
   ·have e2:(n:Int)<(m:Int):=by omega
    have HF:Hid (R = -1):=zd (by
     have h3:=HTK.out;rw[List.drop_of_length_le (l:=a) (by rw[←HN.out];omega),List.drop_eq_getElem_cons (l:=b) (by rw[←HM.out];omega)] at h3
     exact h3.symm)
    go_wp2
    go_ret
    exact⟨by rw[HF.out];rfl,rfl⟩
   ·have e2:¬(n:Int)<(m:Int):=by omega
    have HF:Hid (R=0):=zd (by
     have h3:=HTK.out;rw[List.drop_of_length_le (l:=a) (by rw[←HN.out];omega),List.drop_of_length_le (l:=b) (by rw[←HM.out];omega)] at h3
     exact h3.symm)
    go_wp2
    go_ret
    exact⟨by rw[HF.out];rfl,rfl⟩
set_option maxRecDepth 100000 in
theorem or3_any (x y z:Int) (g:Nat) (W:World) (h0:W.cell? ⟨g,0,none⟩=some (.int .i64 x)) (h1:W.cell? ⟨g,1,none⟩=some (.int .i64 y)) (h2:W.cell? ⟨g,2,none⟩=some (.int .i64 z)):Calls Tryz.prog 90 #[.slice (some ⟨g,0,none⟩) 3 3] W fun e w'=>e = .returned (.int .i64 (if x=0 then (if y=0 then z else y) else x))∧w'=W:=by
 obtain⟨r,hr⟩:∃r,r=if x=0 then (if y=0 then z else y) else x:=⟨_,rfl⟩
 rw[←hr]
 go_enter Tryz.func90,Tryz.ntmps90
 go_wp2
 go_loopw [5,8] (fun _ i wr=>wr=W∧(i = .int .i64 0∨(i = .int .i64 1∧x=0)∨(i = .int .i64 2∧x=0∧y=0)∨(i = .int .i64 3∧x=0∧y=0∧z=0))) (fun _ i _=>3-(intOf i).toNat)
 case atStart=>exact⟨rfl,Or.inl rfl⟩
 case round=>
  obtain⟨rfl,rfl|⟨rfl,hx⟩|⟨rfl,hx,hy⟩|⟨rfl,hx,hy,hz⟩⟩:=hrel
  ·by_cases hx:x=0
   ·subst hx
    go_wp2
    go_roundw
    case rel=>simp
    case measure=>simp[intOf]
   ·rw[if_neg hx] at hr
    subst hr;go_wp2
    go_ret
    exact⟨rfl,rfl⟩
  ·subst hx
   rw[if_pos rfl] at hr
   by_cases hy:y=0
   ·subst hy
    go_wp2
    go_roundw
    case rel=>simp
    case measure=>simp[intOf]
   ·rw[if_neg hy] at hr
    subst hr;go_wp2
    go_ret
    exact⟨rfl,rfl⟩
  ·subst hx;subst hy
   rw[if_pos rfl,if_pos rfl] at hr;subst hr
   by_cases hz:r=0
   ·subst hz
    go_wp2
    go_roundw
    case rel=>simp
    case measure=>simp[intOf]
   ·go_wp2
    go_ret
    exact⟨rfl,rfl⟩
  ·subst hx;subst hy;subst hz
   rw[if_pos rfl,if_pos rfl] at hr;subst hr;go_wp2
   go_ret
   exact⟨rfl,rfl⟩
def zfc (a b:ShM):Int:=if Uq a.key b.key=0 then (if uf a.znm b.znm=0 then uf a.node b.node else uf a.znm b.znm) else Uq a.key b.key
theorem zjr (a b:ShM):zfc a b=0↔(a.key=b.key∧a.znm=b.znm∧a.node=b.node):=by
 have e1:=zc7 a.key b.key;have e2:=Jp a.znm b.znm;have e3:=Jp a.node b.node;unfold zfc
 split
 ·rename_i h1
  split
  ·rename_i h2
   exact⟨fun e=>⟨e1.1 h1,e2.1 h2,e3.1 e⟩,fun e=>e3.2 e.2.2⟩
  ·rename_i h2
   exact⟨fun e=>absurd e h2,fun e=>absurd (e2.2 e.2.1) h2⟩
 ·rename_i h1
  exact⟨fun e=>absurd e h1,fun e=>absurd (e1.2 e.1) h1⟩
set_option maxRecDepth 100000 in
theorem zkx {W:World} {a b:ShM} {pa pb qa qb:Option Addr} {ca cb da db:Nat} (ha:yc W (.slice pa a.key.length ca) a.key) (hb:yc W (.slice pb b.key.length cb) b.key) (hl:a.key.length≤1000000) (hl2:b.key.length≤1000000):Calls Tryz.prog 193 #[shV pa ca qa da a,shV pb cb qb db b] W fun e w'=>e = .returned (.int .i64 (zfc a b))∧W.grownBy w' none:=by
 have HC:Hid (zfc a b=if Uq a.key b.key=0 then (if uf a.znm b.znm=0 then uf a.node b.node else uf a.znm b.znm) else Uq a.key b.key):=zd rfl
 generalize zfc a b=R at *;obtain⟨ka,va,na,ra⟩:=a;obtain⟨kb,vb,nb,rb⟩:=b;unfold shV;simp only at ha hb hl hl2 HC ⊢;have HCV:=zd (fun w=>zbk va vb w)
 have HCN:=zd (fun w=>zfd na nb w)
 have HCK:Hid (∀w,W.grownBy w none→Calls Tryz.prog 237 #[.slice pa ka.length ca,.slice pb kb.length cb] w fun e w'=>e = .returned (.int .i64 (Uq ka kb))∧w'=w):=zd fun w hg=>zm7 (ha.grown hg (by simp)) (hb.grown hg (by simp)) rfl rfl hl hl2
 generalize uf va vb=zv at *;generalize uf na nb=zn at *;generalize Uq ka kb=zk at *;clear ha hb hl hl2;generalize ka.length=la at *;generalize kb.length=lb at *;generalize ra.length=ma at *;generalize rb.length=mb at *
 go_enter Tryz.func193,Tryz.ntmps193
 go_upto_region 1 with fail
 have hga:=(zg W (.cells #[.slice pa la ca,.int .i64 va,.int .i64 na,.slice qa ma da] 97) none).trans (zg (W.alloc (.cells #[.slice pa la ca,.int .i64 va,.int .i64 na,.slice qa ma da] 97)) (.cells #[.slice pb lb cb,.int .i64 vb,.int .i64 nb,.slice qb mb db] 97) none);have ha1:=((zg (W.alloc (.cells #[.slice pa la ca,.int .i64 va,.int .i64 na,.slice qa ma da] 97)) (.cells #[.slice pb lb cb,.int .i64 vb,.int .i64 nb,.slice qb mb db] 97) none).block W.heap.size (by simp) (by simp)).trans (heap_alloc_new W (.cells #[.slice pa la ca,.int .i64 va,.int .i64 na,.slice qa ma da] 97))
 have hb1:=heap_alloc_new (W.alloc (.cells #[.slice pa la ca,.int .i64 va,.int .i64 na,.slice qa ma da] 97)) (.cells #[.slice pb lb cb,.int .i64 vb,.int .i64 nb,.slice qb mb db] 97);rw[show(W.alloc (.cells #[.slice pa la ca,.int .i64 va,.int .i64 na,.slice qa ma da] 97)).heap.size=W.heap.size+1 by simp] at hb1
 have HGA:=zd hga;obtain⟨c0,c1,c2,c3,-⟩:=yx ha1;obtain⟨d0,d1,d2,d3,-⟩:=yx hb1;clear hga ha1 hb1;generalize (W.alloc (.cells #[.slice pa la ca,.int .i64 va,.int .i64 na,.slice qa ma da] 97)).alloc (.cells #[.slice pb lb cb,.int .i64 vb,.int .i64 nb,.slice qb mb db] 97)=W1 at *;generalize W.heap.size+1=b2 at *;generalize W.heap.size=b1 at *;have hl1:=xg c0;have hl2:=xg d0;have HO:=fun g w=>or3_any zk zv zn g w
 have HK1:Hid (Calls Tryz.prog 237 #[.slice pa la ca,.slice pb lb cb] W1.drew fun e w'=>e = .returned (.int .i64 zk)∧w'=W1.drew):=zd (HCK.out _ (zl HGA.out))
 have HR2:Hid (R=if zk=0 then (if zv=0 then zn else zv) else zk):=HC
 generalize (if zk=0 then (if zv=0 then zn else zv) else zk)=R2 at *
 obtain rfl:R=R2:=HR2.out;clear HC HR2 HCK
 go_region_held3 (fun w'=>w'.cell? ⟨b1,0,none⟩=some (.slice pa la ca)∧w'.cell? ⟨b1,1,none⟩=some (.int .i64 va)∧w'.cell? ⟨b1,2,none⟩=some (.int .i64 na)∧w'.cell? ⟨b2,0,none⟩=some (.slice pb lb cb)∧w'.cell? ⟨b2,1,none⟩=some (.int .i64 vb)∧w'.cell? ⟨b2,2,none⟩=some (.int .i64 nb)) (go_keep)
  (first
  | (go_at_call 237;refine HK1.out.mono ?_;rintro e w3 ⟨rfl,rfl⟩)
  | (go_at_call 91;refine(HCV.out _).mono ?_;rintro e w3 ⟨rfl,rfl⟩)
  | (go_at_call 92;refine(HCN.out _).mono ?_;rintro e w3 ⟨rfl,rfl⟩)
  | (go_at_call 90;refine(HO _ _ (by simp[go_sem]) (by simp[go_sem]) (by simp[go_sem])).mono ?_;rintro e w3 ⟨rfl,rfl⟩))
 all_goals
  go_wp2
  go_ret
  exact⟨rfl,HGA.out.trans ((zl (zm _)).trans (zg _ _ none))⟩
theorem zg0 {l:List Int} (h:BL l):zcg (ofB l)=l:=by
 unfold zcg ofB;simp only[List.map_map];refine(List.map_congr_left fun b hb=>?_).trans (List.map_id l)
 have:=h b hb
 show((UInt8.ofNat b.toNat).toNat:Int)=b
 rw[UInt8.toNat_ofNat_of_lt' (by show b.toNat<256;omega)]
 omega
theorem zmo {l m:List Int} (hl:BL l) (hm:BL m) (h:ofB l=ofB m):l=m:=by rw[←zg0 hl,←zg0 hm,h]
set_option maxRecDepth 100000 in
theorem beq_any {W:World} {p q:Option Addr} {n m c d:Nat} {a b:List Int} (ha:yc W (.slice p n c) a) (hb:yc W (.slice q m d) b) (hla:BL a) (hlb:BL b):Calls Tryz.prog 194 #[.slice p n c,.slice q m d] W fun e w'=>e = .returned (.bool (decide (a=b)))∧w'=W:=by
 have h1:(convert 32 9 (.slice p n c)).run Tryz.prog W = .ok (.string (ofB a)) W:=Xa ha;have h2:(convert 32 9 (.slice q m d)).run Tryz.prog W = .ok (.string (ofB b)) W:=Xa hb;have h3:decide (a=b)=decide (ofB a=ofB b):=by
  by_cases h:a=b
  ·rw[h];simp
  ·rw[decide_eq_false h,decide_eq_false (fun e=>h (zmo hla hlb e))]
 have h4:((ofB a).toList == (ofB b).toList)=decide (ofB a=ofB b):=by
  rw[Bool.eq_iff_iff,beq_iff_eq,decide_eq_true_iff,ByteArray.toList_eq,ByteArray.toList_eq]
  exact⟨fun h=>ByteArray.ext (Array.ext' h),fun h=>by rw[h]⟩
 rw[h3];have H4:=zd h4;clear ha hb hla hlb h3 h4;generalize decide (ofB a=ofB b)=r at *
 go_enter Tryz.func194,Tryz.ntmps194
 go_wp2
 go_ret
 exact⟨by rw[←H4.out];rfl,rfl⟩
def zlg (W:World) (P:Prop) (e:Ending) (w':World):Prop:=∃r:Bool,e = .returned (.bool r)∧W.grownBy w' none∧(r=true↔P)
theorem zjh (a b:ShM):a=b↔((a.key=b.key∧a.znm=b.znm∧a.node=b.node)∧a.row=b.row):=by
 obtain⟨a1,a2,a3,a4⟩:=a;obtain⟨b1,b2,b3,b4⟩:=b;simp[and_assoc]
set_option maxRecDepth 100000 in
theorem zif {W:World} {a b:ShM} {pa pb qa qb:Option Addr} {ca cb da db:Nat} (ha:yc W (.slice pa a.key.length ca) a.key) (hb:yc W (.slice pb b.key.length cb) b.key) (ra:yc W (.slice qa a.row.length da) a.row) (rb:yc W (.slice qb b.row.length db) b.row) (hla:BL a.row) (hlb:BL b.row) (hl:a.key.length≤1000000) (hl2:b.key.length≤1000000):Calls Tryz.prog 136 #[shV pa ca qa da a,shV pb cb qb db b] W (zlg W (a=b)):=by
 have HC:Hid (∀w,W.grownBy w none→Calls Tryz.prog 193 #[shV pa ca qa da a,shV pb cb qb db b] w fun e w'=>e = .returned (.int .i64 (zfc a b))∧w.grownBy w' none):=zd fun w hg=>zkx (ha.grown hg (by simp)) (hb.grown hg (by simp)) hl hl2
 have HE:Hid (∀w,W.grownBy w none→Calls Tryz.prog 194 #[.slice qa a.row.length da,.slice qb b.row.length db] w fun e w'=>e = .returned (.bool (decide (a.row=b.row)))∧w'=w):=zd fun w hg=>beq_any (ra.grown hg (by simp)) (rb.grown hg (by simp)) hla hlb
 have HX:Hid ((a=b)↔(zfc a b=0∧decide (a.row=b.row)=true)):=zd (by rw[zjh,zjr,decide_eq_true_iff])
 clear ha hb ra rb hla hlb hl hl2;generalize (a=b)=P at *;unfold shV at *;generalize zfc a b=z at *;generalize decide (a.row=b.row)=r at *;generalize a.key.length=la at *;generalize b.key.length=lb at *;generalize a.row.length=ma at *;generalize b.row.length=mb at *;generalize a.znm=va at *;generalize a.node=na at *;generalize b.znm=vb at *;generalize b.node=nb at *
 go_enter Tryz.func136,Tryz.ntmps136
 go_upto_region 1 with fail
 have hga:=(zg W (.cells #[.slice pa la ca,.int .i64 va,.int .i64 na,.slice qa ma da] 97) none).trans (zg (W.alloc (.cells #[.slice pa la ca,.int .i64 va,.int .i64 na,.slice qa ma da] 97)) (.cells #[.slice pb lb cb,.int .i64 vb,.int .i64 nb,.slice qb mb db] 97) none);have ha1:=((zg (W.alloc (.cells #[.slice pa la ca,.int .i64 va,.int .i64 na,.slice qa ma da] 97)) (.cells #[.slice pb lb cb,.int .i64 vb,.int .i64 nb,.slice qb mb db] 97) none).block W.heap.size (by simp) (by simp)).trans (heap_alloc_new W (.cells #[.slice pa la ca,.int .i64 va,.int .i64 na,.slice qa ma da] 97))
 have hb1:=heap_alloc_new (W.alloc (.cells #[.slice pa la ca,.int .i64 va,.int .i64 na,.slice qa ma da] 97)) (.cells #[.slice pb lb cb,.int .i64 vb,.int .i64 nb,.slice qb mb db] 97);rw[show(W.alloc (.cells #[.slice pa la ca,.int .i64 va,.int .i64 na,.slice qa ma da] 97)).heap.size=W.heap.size+1 by simp] at hb1
 have HGA:=zd hga;have HA1:=zd ha1;have HB1:=zd hb1;obtain⟨c0,c1,c2,c3,-⟩:=yx ha1;obtain⟨d0,d1,d2,d3,-⟩:=yx hb1;clear hga ha1 hb1;generalize (W.alloc (.cells #[.slice pa la ca,.int .i64 va,.int .i64 na,.slice qa ma da] 97)).alloc (.cells #[.slice pb lb cb,.int .i64 vb,.int .i64 nb,.slice qb mb db] 97)=W1 at *;generalize W.heap.size+1=b2 at *;generalize W.heap.size=b1 at *
 by_cases hz:z=0
 ·subst hz
  go_wp2_with (first
   | (go_at_call 193;refine(HC.out _ HGA.out).mono ?_;rintro e w3 ⟨rfl,hg⟩;have HG3:=zd hg;obtain⟨-,-,-,x3,-⟩:=yx ((hg.block _ (Array.getElem?_eq_some_iff.1 HA1.out).1 (by simp)).trans HA1.out);obtain⟨-,-,-,y3,-⟩:=yx ((hg.block _ (Array.getElem?_eq_some_iff.1 HB1.out).1 (by simp)).trans HB1.out);clear hg)
   | (go_at_call 194;refine(HE.out _ (HGA.out.trans HG3.out)).mono ?_;rintro e w4 ⟨rfl,h5⟩;obtain rfl:w3=w4:=h5.symm))
  go_ret
  exact⟨r,rfl,HGA.out.trans HG3.out,by rw[HX.out];simp⟩
 ·go_wp2_with (go_at_call 193;refine(HC.out _ HGA.out).mono ?_;rintro e w3 ⟨rfl,hg⟩;have HG3:=zd hg;clear hg)
  go_ret
  exact⟨false,by simp[hz],HGA.out.trans HG3.out,by rw[HX.out];simp[hz]⟩
end Go.Proofs.YtbcbhlfjgobejaaGreat
